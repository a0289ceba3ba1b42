/-
  Contracts of the laws' small helpers on slices of bools: eqBoolS, heldBoolS, markBoolS.
-/
import Derived.Test.YtaokichfakolmaaInts
namespace Go.Proofs.Ytaokichfakolmaa
open Go.RowKit
set_option linter.unusedVariables false
def Bools (w : World) (A : Option Addr) (n : Nat) (zs : List Bool) : Prop := Rd w 1 A n (zs.map Value.bool)
theorem Bools.len {w : World} {A : Option Addr} {n : Nat} {zs : List Bool} (h : Bools w A n zs) : zs.length = n := by simpa using h.1
theorem Bools.at_ {w : World} {A : Option Addr} {n : Nat} {zs : List Bool} (h : Bools w A n zs) (hn : 0 < n) :
    ∃ b o, A = some ⟨b, o, none⟩ ∧ b < w.heap.size ∧ ∀ j, j < n → w.cell? ⟨b, o + j, none⟩ = some (.bool (zs.getD j false)) := by
  obtain ⟨b, o, e, hb, hc⟩ := h.2 hn
  refine ⟨b, o, e, hb, fun j hj => ?_⟩
  have hl := h.len
  rw [hc j (by omega)]
  simp [List.getElem?_map, List.getD_eq_getElem?_getD, List.getElem?_eq_getElem (show j < zs.length by omega)]
theorem el_bool : El Try.prog 65 4 (.bool false) 1 1 := ⟨Try.underlying65, by kernel_rfl, rfl, by decide⟩
set_option maxHeartbeats 400000 in
theorem eqBoolS_c (A B : Option Addr) (n m c d : Nat) (xs ys : List Bool) (w : World) (hx : Bools w A n xs) (hy : Bools w B m ys) (hn : n ≤ 4611686018427387903) (hm : m ≤ 4611686018427387903) :
    Calls Try.prog 53 #[.slice A n c, .slice B m d] w fun e w' => e = .returned (.bool (xs == ys)) ∧ ∃ q, w' = w.drewN q := by
  have lx := hx.len
  have ly := hy.len
  by_cases hnm : n = m
  · subst hnm
    have hd : ((n : Int) != (n : Int)) = false := by simp
    have LX := Lib.hid lx
    have LY := Lib.hid ly
    clear lx ly
    go_enter Try.func53, Try.ntmps53
    go_wp2_with fail
    go_loopw [5] (fun i w1 => ∃ k q : Nat, k ≤ n ∧ i = .int .i64 k ∧ w1 = w.drewN q ∧ Hid (xs.take k = ys.take k)) (fun i _ => n - (intOf i).toNat)
    case atStart => exact ⟨0, 0, Nat.zero_le _, rfl, rfl, by simp [Hid]⟩
    case round =>
      obtain ⟨k, q, hk, rfl, rfl, heq⟩ := hrel
      by_cases hlt : k < n
      · obtain ⟨b, o, rfl, hb, hc⟩ := hx.at_ (by omega)
        obtain ⟨b', o', rfl, hb', hc'⟩ := hy.at_ (by omega)
        have c1 := hc k hlt
        have c2 := hc' k hlt
        clear hc hc'
        have i1 : (k : Int) < (n : Int) := by omega
        go_wp2_with fail
        go_quiet (fail)
        go_wp2_with fail
        · have hne : (xs[k]?.getD false != ys[k]?.getD false) = true := by assumption
          go_ret
          have h1 := LX.out; have h2 := LY.out
          have := ne_of_at xs ys false k (by simpa using hne)
          exact ⟨by simp [this], _, dN ..⟩
        · have hne : (xs[k]?.getD false != ys[k]?.getD false) = false := by assumption
          go_roundw
          case rel =>
            have h1 := LX.out; have h2 := LY.out
            exact ⟨k + 1, _, by omega, by go_num, rfl, take_eq_succ xs ys false k (by omega) (by omega) heq.out (by simpa using hne)⟩
          case measure => simp [intOf]; omega
      · have hkn : k = n := by omega
        subst hkn
        go_wp2_with fail
        go_ret
        have h1 := LX.out; have h2 := LY.out
        exact ⟨by simp [eq_of_take xs ys k h1 h2 heq.out], _, rfl⟩
  · have hd : ((n : Int) != (m : Int)) = true := by simp; omega
    go_enter Try.func53, Try.ntmps53
    go_wp2_with fail
    go_ret
    have : ¬ xs = ys := by rintro rfl; omega
    exact ⟨by simp [this], 0, rfl⟩


def marksB (k : Int) (n : Nat) : List Bool := (List.range n).map fun i : Nat => ((k + (i : Int)) % 3 == 0)
theorem marksB_get (k : Int) (n i : Nat) (h : i < n) : (marksB k n)[i]?.getD false = ((k + (i : Int)) % 3 == 0) := by simp [marksB, h]
/-- What lies in a row whose first k places markBoolS has laid. -/
def markdB (k0 : Int) (xs : List Bool) (k : Nat) : List Bool := (List.range k).map (fun i : Nat => ((k0 + (i : Int)) % 3 == 0)) ++ xs.drop k
theorem markdB_step (k0 : Int) (xs : List Bool) (k : Nat) (h : k < xs.length) : ((markdB k0 xs k).map (Value.bool)).set k (.bool ((k0 + (k : Int)) % 3 == 0)) = (markdB k0 xs (k + 1)).map (Value.bool) := by
  unfold markdB
  rw [← List.map_set, fill_step (fun i : Nat => ((k0 + (i : Int)) % 3 == 0)) xs k h]
theorem markdB_all (k0 : Int) (xs : List Bool) (n : Nat) (h : xs.length = n) : markdB k0 xs n = marksB k0 n := by simp [markdB, marksB, ← h]

end Go.Proofs.Ytaokichfakolmaa
