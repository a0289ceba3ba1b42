/-
  Contracts of the laws' small helpers on slices of bools: eqBoolS, heldBoolS, markBoolS.
-/
import Derived.Test.YtllokfcappfkiaaInts
namespace Go.Proofs.Ytllokfcappfkiaa
open Go.RowKit
set_option linter.unusedVariables false
def Bools (w : World) (A : Option Addr) (n : Nat) (zs : List Bool) : Prop := Rd w 1 A n (zs.map Value.bool)
theorem Bools.len {w : World} {A : Option Addr} {n : Nat} {zs : List Bool} (h : Bools w A n zs) : zs.length = n := by simpa using h.1
theorem Bools.at_ {w : World} {A : Option Addr} {n : Nat} {zs : List Bool} (h : Bools w A n zs) (hn : 0 < n) :
    ∃ b o, A = some ⟨b, o, none⟩ ∧ b < w.heap.size ∧ ∀ j, j < n → w.cell? ⟨b, o + j, none⟩ = some (.bool (zs.getD j false)) := by
  obtain ⟨b, o, e, hb, hc⟩ := h.2 hn
  refine ⟨b, o, e, hb, fun j hj => ?_⟩
  have hl := h.len
  rw [hc j (by omega)]
  simp [List.getElem?_map, List.getD_eq_getElem?_getD, List.getElem?_eq_getElem (show j < zs.length by omega)]
theorem el_bool : El Try.prog 60 4 (.bool false) 1 1 := ⟨Try.underlying60, by kernel_rfl, rfl, by decide⟩
set_option maxHeartbeats 400000 in
theorem eqBoolS_c (A B : Option Addr) (n m c d : Nat) (xs ys : List Bool) (w : World) (hx : Bools w A n xs) (hy : Bools w B m ys) (hn : n ≤ 4611686018427387903) (hm : m ≤ 4611686018427387903) :
    Calls Try.prog 56 #[.slice A n c, .slice B m d] w fun e w' => e = .returned (.bool (xs == ys)) ∧ ∃ q, w' = w.drewN q := by
  have lx := hx.len
  have ly := hy.len
  by_cases hnm : n = m
  · subst hnm
    have hd : ((n : Int) != (n : Int)) = false := by simp
    have LX := Lib.hid lx
    have LY := Lib.hid ly
    clear lx ly
    go_enter Try.func56, Try.ntmps56
    go_wp2_with fail
    go_loopw [5] (fun i w1 => ∃ k q : Nat, k ≤ n ∧ i = .int .i64 k ∧ w1 = w.drewN q ∧ Hid (xs.take k = ys.take k)) (fun i _ => n - (intOf i).toNat)
    case atStart => exact ⟨0, 0, Nat.zero_le _, rfl, rfl, by simp [Hid]⟩
    case round =>
      obtain ⟨k, q, hk, rfl, rfl, heq⟩ := hrel
      by_cases hlt : k < n
      · obtain ⟨b, o, rfl, hb, hc⟩ := hx.at_ (by omega)
        obtain ⟨b', o', rfl, hb', hc'⟩ := hy.at_ (by omega)
        have c1 := hc k hlt
        have c2 := hc' k hlt
        clear hc hc'
        have i1 : (k : Int) < (n : Int) := by omega
        go_wp2_with fail
        go_quiet (fail)
        go_wp2_with fail
        · have hne : (xs[k]?.getD false != ys[k]?.getD false) = true := by assumption
          go_ret
          have h1 := LX.out; have h2 := LY.out
          have := ne_of_at xs ys false k (by simpa using hne)
          exact ⟨by simp [this], _, dN ..⟩
        · have hne : (xs[k]?.getD false != ys[k]?.getD false) = false := by assumption
          go_roundw
          case rel =>
            have h1 := LX.out; have h2 := LY.out
            exact ⟨k + 1, _, by omega, by go_num, rfl, take_eq_succ xs ys false k (by omega) (by omega) heq.out (by simpa using hne)⟩
          case measure => simp [intOf]; omega
      · have hkn : k = n := by omega
        subst hkn
        go_wp2_with fail
        go_ret
        have h1 := LX.out; have h2 := LY.out
        exact ⟨by simp [eq_of_take xs ys k h1 h2 heq.out], _, rfl⟩
  · have hd : ((n : Int) != (m : Int)) = true := by simp; omega
    go_enter Try.func56, Try.ntmps56
    go_wp2_with fail
    go_ret
    have : ¬ xs = ys := by rintro rfl; omega
    exact ⟨by simp [this], 0, rfl⟩


def marksB (k : Int) (n : Nat) : List Bool := (List.range n).map fun i : Nat => ((k + (i : Int)) % 3 == 0)
theorem marksB_get (k : Int) (n i : Nat) (h : i < n) : (marksB k n)[i]?.getD false = ((k + (i : Int)) % 3 == 0) := by simp [marksB, h]
set_option maxHeartbeats 400000 in
theorem heldBoolS_c (A : Option Addr) (n c : Nat) (k0 : Int) (w : World) (hx : Bools w A n (marksB k0 n)) (hn : n ≤ 1099511627776) (h0 : 0 ≤ k0) (h1 : k0 ≤ 1099511627776) :
    Calls Try.prog 58 #[.slice A n c, .int .i64 k0] w fun e w' => e = .returned (.int .i64 (k0 + n)) ∧ w' = w := by
  go_enter Try.func58, Try.ntmps58
  go_wp2_with fail
  go_loop [5, 1] (fun i s => ∃ k : Nat, k ≤ n ∧ i = .int .i64 k ∧ s = .int .i64 (k0 + k)) (fun i _ => n - (intOf i).toNat)
  case atStart => exact ⟨0, Nat.zero_le _, rfl, by go_num⟩
  case round =>
    obtain ⟨k, hk, rfl, rfl⟩ := hrel
    by_cases hlt : k < n
    · obtain ⟨b, o, rfl, hb, hc⟩ := hx.at_ (by omega)
      have c1 := hc k hlt
      rw [List.getD_eq_getElem?_getD, marksB_get k0 n k hlt] at c1
      clear hc
      have i1 : (k : Int) < (n : Int) := by omega
      go_wp2_with fail
      go_round
      case rel => exact ⟨k + 1, by omega, by go_num, by go_num⟩
      case measure => simp [intOf]; omega
    · have hkn : k = n := by omega
      subst hkn
      go_wp2_with fail
      go_ret
      exact ⟨rfl, rfl⟩

/-- What lies in a row whose first k places markBoolS has laid. -/
def markdB (k0 : Int) (xs : List Bool) (k : Nat) : List Bool := (List.range k).map (fun i : Nat => ((k0 + (i : Int)) % 3 == 0)) ++ xs.drop k
theorem markdB_step (k0 : Int) (xs : List Bool) (k : Nat) (h : k < xs.length) : ((markdB k0 xs k).map (Value.bool)).set k (.bool ((k0 + (k : Int)) % 3 == 0)) = (markdB k0 xs (k + 1)).map (Value.bool) := by
  unfold markdB
  rw [← List.map_set, fill_step (fun i : Nat => ((k0 + (i : Int)) % 3 == 0)) xs k h]
theorem markdB_all (k0 : Int) (xs : List Bool) (n : Nat) (h : xs.length = n) : markdB k0 xs n = marksB k0 n := by simp [markdB, marksB, ← h]

set_option maxHeartbeats 400000 in
theorem markBoolS_c (base : Nat) (A : Option Addr) (n c : Nat) (xs : List Bool) (k0 : Int) (w : World) (hx : w.ownsRow base 4 1 (.slice A n c) n (xs.map (Value.bool))) (hn : n ≤ 1099511627776) (h0 : 0 ≤ k0) (h1 : k0 ≤ 1099511627776) :
    Calls Try.prog 57 #[.slice A n c, .int .i64 k0] w fun e w' => e = .returned (.int .i64 (k0 + n)) ∧ w'.ownsRow base 4 1 (.slice A n c) n ((marksB k0 n).map (Value.bool)) ∧ w.grownBy w' (A.map (·.block)) := by
  have lx : Hid (xs.length = n) := by have := hx.1; unfold Hid; simpa using this
  go_enter Try.func57, Try.ntmps57
  go_wp2_with fail
  go_loopw [5, 1] (fun i s wr => ∃ k : Nat, k ≤ n ∧ i = .int .i64 k ∧ s = .int .i64 (k0 + k) ∧ wr.ownsRow base 4 1 (.slice A n c) n ((markdB k0 xs k).map (Value.bool)) ∧ w.grownBy wr (A.map (·.block))) (fun i _ _ => n - (intOf i).toNat)
  case atStart => exact ⟨0, Nat.zero_le _, rfl, by go_num, by simpa [markdB] using hx, gbR _ _⟩
  case round =>
    obtain ⟨k, hk, rfl, rfl, hown, hg⟩ := hrel
    by_cases hlt : k < n
    · obtain ⟨ad, he⟩ : ∃ g, A = some ⟨g, 0, none⟩ := by
        rcases hown.2 with ⟨h, h'⟩ | ⟨g, cap, cur, hv, _⟩
        · omega
        · injection hv with hv; exact ⟨g, hv⟩
      subst he
      have hcell := hown.cellAt k (by omega)
      have hfr := hown.frozenAt k
      have hst := hown.stored k (.bool ((k0 + (k : Int)) % 3 == 0))
      rw [markdB_step k0 xs k (by have := lx.out; omega)] at hst
      have hl : k < ((markdB k0 xs k).map (Value.bool)).length := by have := hown.1; omega
      rw [List.getElem?_eq_getElem hl] at hcell
      have Hst := Lib.hid hst
      have i1 : (k : Int) < (n : Int) := by omega
      clear hst
      go_wp2_with fail
      go_roundw
      case rel => exact ⟨k + 1, by omega, by go_num, by go_num, Hst.out.1, gbT hg Hst.out.2⟩
      case measure => simp [intOf]; omega
    · have hkn : k = n := by omega
      subst hkn
      rw [markdB_all k0 xs k lx.out] at hown
      go_wp2_with fail
      go_ret
      exact ⟨rfl, hown, hg⟩

end Go.Proofs.Ytllokfcappfkiaa
