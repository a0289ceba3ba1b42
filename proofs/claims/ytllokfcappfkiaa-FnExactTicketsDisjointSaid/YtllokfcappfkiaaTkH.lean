/-
  The laws' helpers on slices of structs of numbers: Ticket.
-/
import Derived.Test.YtllokfcappfkiaaFlat
import Derived.Test.YtllokfcappfkiaaInts
import Derived.StillTailTactics
namespace Go.Proofs.Ytllokfcappfkiaa
open Go.RowKit
set_option linter.unusedVariables false
theorem stTicket : St Try.prog 53 2 := ⟨⟨_, Try.underlying53, rfl⟩, by kernel_rfl⟩
theorem elTicket : El Try.prog 51 53 (.agg #[.int .i64 0, .int .i64 0]) 2 16 := ⟨Try.underlying51, by kernel_rfl, rfl, by decide⟩
set_option maxHeartbeats 400000 in
theorem toTicket_c (a b : Int) (w : World) :
    Calls Try.prog 102 #[.agg #[.int .i64 a, .int .i64 b]] w fun e w' => e = .returned (.agg #[.int .i64 a, .int .i64 b]) ∧ w.grownBy w' none := by
  go_enter Try.func102, Try.ntmps102
  go_wp2_with fail
  exact bodyPost_ret (by simp [results, Try.results102, go_sem]) rfl ⟨rfl, by repeat (first | with_reducible exact gbR _ _ | with_reducible refine gbA ?_ _)⟩
theorem eqTicket_c (a b : Int) (w : World) :
    Calls Try.prog 60 #[.agg #[.int .i64 a, .int .i64 b], .agg #[.int .i64 a, .int .i64 b]] w fun e w' => e = .returned (.bool true) ∧ w.grownBy w' none := by
  go_enter Try.func60, Try.ntmps60
  go_wp2_with fail
  all_goals
    go_ret
    exact ⟨rfl, by repeat (first | with_reducible exact gbR _ _ | with_reducible refine gbA ?_ _)⟩
set_option maxHeartbeats 400000 in
theorem toTicketS_c (A : Option Addr) (n c : Nat) (xs : List (Int × Int)) (w : World) (hx : FL c2 2 w A n xs) (hn : n ≤ 1099511627776) :
    Calls Try.prog 69 #[.slice A n c] w fun e w' => ∃ g, e = .returned (.slice (some ⟨g, 0, none⟩) n n) ∧ w'.ownsRow w.heap.size 53 2 (.slice (some ⟨g, 0, none⟩) n n) n (xs.flatMap c2) ∧ w.grownBy w' none := by
  have lx := Lib.hid hx.len
  go_enter Try.func69, Try.ntmps69
  go_wp2_with (at_make; refine wp_makeN _ elTicket rfl _ _ rfl n rfl rfl (by omega) (by unfold maxLen; omega) ?_; intro w1 hown1 hg1; rw [made_flat c2_len (by omega) (0, 0) _ (by rfl)] at hown1)
  have O1 := Lib.hid hown1
  have G1 := Lib.hid hg1
  clear hown1 hg1
  go_loopw [4] (fun i wr => ∃ k : Nat, k ≤ n ∧ i = .int .i64 k ∧ Hid (wr.ownsRow w.heap.size 53 2 (.slice (some ⟨w.heap.size, 0, none⟩) n n) n ((xs.take k ++ List.replicate (xs.length - k) (0, 0)).flatMap c2)) ∧ Hid (w.grownBy wr none)) (fun i _ => n - (intOf i).toNat)
  case atStart => exact ⟨0, Nat.zero_le _, rfl, by simpa [Hid, lx.out] using O1.out, G1.out⟩
  case round =>
    obtain ⟨k, hk, rfl, hown, hg⟩ := hrel
    by_cases hlt : k < n
    · obtain ⟨b, o, x, rfl, hb, hxk, hc⟩ := (FL.grow hx hg.out).cell c2_len hlt (by omega)
      obtain ⟨a, b⟩ := x
      have q0 := hc 0 (by omega)
      have q1 := hc 1 (by omega)
      simp only [c2, Nat.add_zero, ← Nat.add_assoc, List.getElem?_cons_zero, List.getElem?_cons_succ] at q0 q1
      have HX := Lib.hid hxk
      have i1 : (k : Int) < (n : Int) := by omega
      clear hxk hc
      go_wp2_with fail
      refine (toTicket_c a b _).mono ?_
      rintro e w2 ⟨rfl, h2⟩
      have hown2 := own_grow hown.out h2
      have hl2 : ((xs.take k ++ List.replicate (xs.length - k) (0, 0)).flatMap c2).length = n * 2 := hown2.1
      have hcell := fun j (hj : j < n * 2) => hown2.cellAt j hj
      obtain ⟨u0, r0⟩ : ∃ u, w2.cell? ⟨w.heap.size, k * 2 + 0, none⟩ = some u := ⟨_, (hcell (k * 2 + 0) (by omega)).trans (List.getElem?_eq_getElem (by rw [hl2]; omega))⟩
      have f0 := hown2.frozenAt (k * 2 + 0)
      obtain ⟨u1, r1⟩ : ∃ u, w2.cell? ⟨w.heap.size, k * 2 + 1, none⟩ = some u := ⟨_, (hcell (k * 2 + 1) (by omega)).trans (List.getElem?_eq_getElem (by rw [hl2]; omega))⟩
      have f1 := hown2.frozenAt (k * 2 + 1)
      simp only [Nat.add_zero] at r0 f0
      have s0 := hown2.stored (k * 2 + 0) (.int .i64 a)
      have s1 := s0.1.stored (k * 2 + 1) (.int .i64 b)
      have g3 : wr.grownBy _ (some w.heap.size) := gbT (gbW h2) (gbT s0.2 s1.2)
      have hlk : k < xs.length := by have := lx.out; omega
      have hxk' : xs[k] = (a, b) := by have := HX.out; rw [List.getElem?_eq_getElem hlk] at this; injection this
      have sN := s1.1
      simp only [Nat.add_zero] at sN g3
      rw [flat_set2 c2_len _ k (by simp; omega) (a, b) (.int .i64 a) (.int .i64 b) rfl, ← hxk', fillD_step (0, 0) xs k hlk] at sN
      have HN := Lib.hid sN
      have G3 := Lib.hid (gbN hg.out g3 (fun g e => by injection e with e; omega))
      clear s1 s0 sN g3 hown2 hcell hl2 hown
      go_wp2_with fail
      go_roundw
      case rel => exact ⟨k + 1, by omega, by go_num, HN.out, G3.out⟩
      case measure => simp [intOf]; omega
    · have hkn : k = n := by omega
      subst hkn
      go_wp2_with fail
      go_ret
      have hl := lx.out
      have ho := hown.out
      rw [hl, Nat.sub_self, List.replicate_zero, List.append_nil, List.take_of_length_le (by omega)] at ho
      exact ⟨_, rfl, ho, hg.out⟩
set_option maxRecDepth 100000 in
set_option maxHeartbeats 400000 in
theorem eqTicketS_c (A B : Option Addr) (n c d : Nat) (xs : List (Int × Int)) (w : World) (hx : FL c2 2 w A n xs) (hy : FL c2 2 w B n xs) (hn : n ≤ 4611686018427387903) :
    Calls Try.prog 70 #[.slice A n c, .slice B n d] w fun e w' => e = .returned (.bool true) ∧ w.grownBy w' none := by
  have hd : ((n : Int) != (n : Int)) = false := by simp
  go_enter Try.func70, Try.ntmps70
  go_wp2_with fail
  go_loopw [5] (fun i wr => ∃ k : Nat, k ≤ n ∧ i = .int .i64 k ∧ Hid (w.grownBy wr none)) (fun i _ => n - (intOf i).toNat)
  case atStart => exact ⟨0, Nat.zero_le _, rfl, gbR _ _⟩
  case round =>
    obtain ⟨k, hk, rfl, hg⟩ := hrel
    by_cases hlt : k < n
    · obtain ⟨b, o, x, rfl, hb, hxk, hc⟩ := (FL.grow hx hg.out).cell c2_len hlt (by omega)
      obtain ⟨b', o', x', rfl, hb', hxk', hc'⟩ := (FL.grow hy hg.out).cell c2_len hlt (by omega)
      obtain rfl : x = x' := by rw [hxk] at hxk'; injection hxk'
      obtain ⟨a, b⟩ := x
      have q0 := hc 0 (by omega)
      have r0 := hc' 0 (by omega)
      have q1 := hc 1 (by omega)
      have r1 := hc' 1 (by omega)
      simp only [c2, Nat.add_zero, ← Nat.add_assoc, List.getElem?_cons_zero, List.getElem?_cons_succ] at q0 r0 q1 r1
      have i1 : (k : Int) < (n : Int) := by omega
      clear hxk hxk' hc hc'
      go_wp2_with fail
      go_still_tail 8, (by kernel_rfl)
      go_wp2_with fail
      refine (eqTicket_c a b _).mono ?_
      rintro e w2 ⟨rfl, h2⟩
      have G2 := Lib.hid (gbT (gbD hg.out) h2)
      clear h2
      go_wp2_with fail
      go_roundw
      case rel => exact ⟨k + 1, by omega, by go_num, G2.out⟩
      case measure => simp [intOf]; omega
    · have hkn : k = n := by omega
      subst hkn
      go_wp2_with fail
      go_ret
      exact ⟨rfl, hg.out⟩
theorem szTicketS_yes (A : Option Addr) (n c l : Nat) (w : World) (hn : n ≤ 9223372036854775807) (hl : l ≤ 1048576) (h : n ≤ l) :
    Calls Try.prog 67 #[.slice A n c, .int .i64 l] w fun e w' => e = .returned (.int .i64 ((l - n : Nat) : Int)) ∧ w = w' := by
  go_enter Try.func67, Try.ntmps67
  have h' : ¬ ((l : Int) - (n : Int) < 0) := by omega
  go_wp2_with fail
  go_ret
  exact ⟨retI (by omega), rfl⟩
theorem szTicketS_no (A : Option Addr) (n c l : Nat) (w : World) (hn : n ≤ 9223372036854775807) (hl : l ≤ 1048576) (h : l < n) :
    Calls Try.prog 67 #[.slice A n c, .int .i64 l] w fun e w' => e = .returned (.int .i64 (-1)) ∧ w = w' := by
  go_enter Try.func67, Try.ntmps67
  have h' : (l : Int) - (n : Int) < 0 := by omega
  go_wp2_with fail
  go_ret
  exact ⟨rfl, rfl⟩
end Go.Proofs.Ytllokfcappfkiaa
