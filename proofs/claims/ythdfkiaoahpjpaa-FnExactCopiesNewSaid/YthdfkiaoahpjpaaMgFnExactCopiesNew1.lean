/-
  Contracts of the laws' small helpers on slices of numbers: eqIntS, heldIntS, markIntS, toIntS.
-/
import Derived.Test.YthdfkiaoahpjpaaMgFnExactCopiesNew0
namespace Go.Proofs.Ythdfkiaoahpjpaa
open Go.RowKit
theorem take_eq_succ {α : Type} [Inhabited α] (xs ys : List α) (d : α) (k : Nat) (hx : k < xs.length) (hy : k < ys.length) (h : xs.take k = ys.take k) (he : xs[k]?.getD d = ys[k]?.getD d) : xs.take (k + 1) = ys.take (k + 1) := by
  rw [List.take_succ_eq_append_getElem hx, List.take_succ_eq_append_getElem hy, h]
  simp [List.getElem?_eq_getElem hx, List.getElem?_eq_getElem hy] at he
  rw [he]
theorem ne_of_at {α : Type} (xs ys : List α) (d : α) (k : Nat) (he : ¬ xs[k]?.getD d = ys[k]?.getD d) : ¬ xs = ys := by
  rintro rfl; exact he rfl
theorem eq_of_take {α : Type} (xs ys : List α) (n : Nat) (hx : xs.length = n) (hy : ys.length = n) (h : xs.take n = ys.take n) : xs = ys := by
  rwa [List.take_of_length_le (by omega), List.take_of_length_le (by omega)] at h
set_option maxHeartbeats 400000 in
theorem eqIntS_c (A B : Option Addr) (n m c d : Nat) (xs ys : List Int) (w : World) (hx : Ints w A n xs) (hy : Ints w B m ys) (hn : n ≤ 4611686018427387903) (hm : m ≤ 4611686018427387903) :
    Calls Try.prog 33 #[.slice A n c, .slice B m d] w fun e w' => e = .returned (.bool (xs == ys)) ∧ ∃ q, w' = w.drewN q := by
  have lx := hx.len
  have ly := hy.len
  by_cases hnm : n = m
  · subst hnm
    have hd : ((n : Int) != (n : Int)) = false := by simp
    have LX := Lib.hid lx
    have LY := Lib.hid ly
    clear lx ly
    go_enter Try.func33, Try.ntmps33
    go_wp2_with fail
    go_loopw [5] (fun i w1 => ∃ k q : Nat, k ≤ n ∧ i = .int .i64 k ∧ w1 = w.drewN q ∧ Hid (xs.take k = ys.take k)) (fun i _ => n - (intOf i).toNat)
    case atStart => exact ⟨0, 0, Nat.zero_le _, rfl, rfl, by simp [Hid]⟩
    case round =>
      obtain ⟨k, q, hk, rfl, rfl, heq⟩ := hrel
      by_cases hlt : k < n
      · obtain ⟨b, o, rfl, hb, hc⟩ := hx.at_ (by omega)
        obtain ⟨b', o', rfl, hb', hc'⟩ := hy.at_ (by omega)
        have c1 := hc k hlt
        have c2 := hc' k hlt
        clear hc hc'
        have i1 : (k : Int) < (n : Int) := by omega
        go_wp2_with fail
        go_quiet (fail)
        go_wp2_with fail
        · have hne : (xs[k]?.getD 0 != ys[k]?.getD 0) = true := by assumption
          go_ret
          have h1 := LX.out; have h2 := LY.out
          have := ne_of_at xs ys 0 k (by simpa using hne)
          exact ⟨by simp [this], _, dN ..⟩
        · have hne : (xs[k]?.getD 0 != ys[k]?.getD 0) = false := by assumption
          go_roundw
          case rel =>
            have h1 := LX.out; have h2 := LY.out
            exact ⟨k + 1, _, by omega, by go_num, rfl, take_eq_succ xs ys 0 k (by omega) (by omega) heq.out (by simpa using hne)⟩
          case measure => simp [intOf]; omega
      · have hkn : k = n := by omega
        subst hkn
        go_wp2_with fail
        go_ret
        have h1 := LX.out; have h2 := LY.out
        exact ⟨by simp [eq_of_take xs ys k h1 h2 heq.out], _, rfl⟩
  · have hd : ((n : Int) != (m : Int)) = true := by simp; omega
    go_enter Try.func33, Try.ntmps33
    go_wp2_with fail
    go_ret
    have : ¬ xs = ys := by rintro rfl; omega
    exact ⟨by simp [this], 0, rfl⟩
def marks (k : Int) (n : Nat) : List Int := (List.range n).map fun i : Nat => k + (i : Int)
theorem marks_get (k : Int) (n i : Nat) (h : i < n) : (marks k n)[i]?.getD 0 = k + i := by simp [marks, h]
set_option maxHeartbeats 400000 in
theorem heldIntS_c (A : Option Addr) (n c : Nat) (k0 : Int) (w : World) (hx : Ints w A n (marks k0 n)) (hn : n ≤ 1099511627776) (h0 : 0 ≤ k0) (h1 : k0 ≤ 1099511627776) :
    Calls Try.prog 81 #[.slice A n c, .int .i64 k0] w fun e w' => e = .returned (.int .i64 (k0 + n)) ∧ w' = w := by
  go_enter Try.func81, Try.ntmps81
  go_wp2_with fail
  go_loop [5, 1] (fun i s => ∃ k : Nat, k ≤ n ∧ i = .int .i64 k ∧ s = .int .i64 (k0 + k)) (fun i _ => n - (intOf i).toNat)
  case atStart => exact ⟨0, Nat.zero_le _, rfl, by go_num⟩
  case round =>
    obtain ⟨k, hk, rfl, rfl⟩ := hrel
    by_cases hlt : k < n
    · obtain ⟨b, o, rfl, hb, hc⟩ := hx.at_ (by omega)
      have c1 := hc k hlt
      rw [List.getD_eq_getElem?_getD, marks_get k0 n k hlt] at c1
      clear hc
      have i1 : (k : Int) < (n : Int) := by omega
      go_wp2_with fail
      go_round
      case rel => exact ⟨k + 1, by omega, by go_num, by go_num⟩
      case measure => simp [intOf]; omega
    · have hkn : k = n := by omega
      subst hkn
      go_wp2_with fail
      go_ret
      exact ⟨rfl, rfl⟩
theorem el_int : El Try.prog 24 3 (.int .i64 0) 1 8 := ⟨Try.underlying24, by kernel_rfl, rfl, by decide⟩
def markd (k0 : Int) (xs : List Int) (k : Nat) : List Int := (List.range k).map (fun i : Nat => k0 + (i : Int)) ++ xs.drop k
theorem markd_step (k0 : Int) (xs : List Int) (k : Nat) (h : k < xs.length) : ((markd k0 xs k).map (Value.int .i64)).set k (.int .i64 (k0 + k)) = (markd k0 xs (k + 1)).map (Value.int .i64) := by
  unfold markd
  rw [← List.map_set, fill_step (fun i : Nat => k0 + (i : Int)) xs k h]
theorem markd_all (k0 : Int) (xs : List Int) (n : Nat) (h : xs.length = n) : markd k0 xs n = marks k0 n := by simp [markd, marks, ← h]
set_option maxHeartbeats 400000 in
theorem markIntS_c (base : Nat) (A : Option Addr) (n c : Nat) (xs : List Int) (k0 : Int) (w : World) (hx : w.ownsRow base 3 1 (.slice A n c) n (xs.map (Value.int .i64))) (hn : n ≤ 1099511627776) (h0 : 0 ≤ k0) (h1 : k0 ≤ 1099511627776) :
    Calls Try.prog 35 #[.slice A n c, .int .i64 k0] w fun e w' => e = .returned (.int .i64 (k0 + n)) ∧ w'.ownsRow base 3 1 (.slice A n c) n ((marks k0 n).map (Value.int .i64)) ∧ w.grownBy w' (A.map (·.block)) := by
  have lx : Hid (xs.length = n) := by have := hx.1; unfold Hid; simpa using this
  go_enter Try.func35, Try.ntmps35
  go_wp2_with fail
  go_loopw [5, 1] (fun i s wr => ∃ k : Nat, k ≤ n ∧ i = .int .i64 k ∧ s = .int .i64 (k0 + k) ∧ wr.ownsRow base 3 1 (.slice A n c) n ((markd k0 xs k).map (Value.int .i64)) ∧ w.grownBy wr (A.map (·.block))) (fun i _ _ => n - (intOf i).toNat)
  case atStart => exact ⟨0, Nat.zero_le _, rfl, by go_num, by simpa [markd] using hx, gbR _ _⟩
  case round =>
    obtain ⟨k, hk, rfl, rfl, hown, hg⟩ := hrel
    by_cases hlt : k < n
    · obtain ⟨ad, he⟩ : ∃ g, A = some ⟨g, 0, none⟩ := by
        rcases hown.2 with ⟨h, h'⟩ | ⟨g, cap, cur, hv, _⟩
        · omega
        · injection hv with hv; exact ⟨g, hv⟩
      subst he
      have hcell := hown.cellAt k (by omega)
      have hfr := hown.frozenAt k
      have hst := hown.stored k (.int .i64 (k0 + k))
      rw [markd_step k0 xs k (by have := lx.out; omega)] at hst
      have hl : k < ((markd k0 xs k).map (Value.int .i64)).length := by have := hown.1; omega
      rw [List.getElem?_eq_getElem hl] at hcell
      have Hst := Lib.hid hst
      have i1 : (k : Int) < (n : Int) := by omega
      clear hst
      go_wp2_with fail
      go_roundw
      case rel => exact ⟨k + 1, by omega, by go_num, by go_num, Hst.out.1, gbT hg Hst.out.2⟩
      case measure => simp [intOf]; omega
    · have hkn : k = n := by omega
      subst hkn
      rw [markd_all k0 xs k lx.out] at hown
      go_wp2_with fail
      go_ret
      exact ⟨rfl, hown, hg⟩
set_option maxHeartbeats 400000 in
theorem toIntS_c (A : Option Addr) (n c : Nat) (zs : List Int) (w : World) (hx : Ints w A n zs) (hn : n ≤ 1099511627776) :
    Calls Try.prog 29 #[.slice A n c] w fun e w' => ∃ g, e = .returned (.slice (some ⟨g, 0, none⟩) n n) ∧ w'.ownsRow w.heap.size 3 1 (.slice (some ⟨g, 0, none⟩) n n) n (zs.map (Value.int .i64)) ∧ w.grownBy w' none := by
  have lx := Lib.hid hx.len
  go_enter Try.func29, Try.ntmps29
  go_wp2_with (at_make; refine wp_makeN _ el_int rfl _ _ rfl n rfl rfl (by omega) (by unfold maxLen; omega) ?_; intro w1 hown1 hg1; rw [show (Value.int IntKind.i64 0).cells = #[.int .i64 0] from rfl, made_one] at hown1)
  go_loopw [4] (fun i wr => ∃ k : Nat, k ≤ n ∧ i = .int .i64 k ∧ wr.ownsRow w.heap.size 3 1 (.slice (some ⟨w.heap.size, 0, none⟩) n n) n (((List.range k).map (fun i => zs.getD i 0) ++ (List.replicate n 0).drop k).map (Value.int .i64)) ∧ w.grownBy wr none) (fun i _ => n - (intOf i).toNat)
  case atStart => exact ⟨0, Nat.zero_le _, rfl, by simpa using hown1, hg1⟩
  case round =>
    obtain ⟨k, hk, rfl, hown, hg⟩ := hrel
    by_cases hlt : k < n
    · obtain ⟨b, o, rfl, hb, hc⟩ := (hx.grow hg).at_ (by omega)
      have c1 := hc k hlt
      clear hc
      have hcell := hown.cellAt k (by omega)
      have hfr := hown.frozenAt k
      have hst := hown.stored k (.int .i64 (zs.getD k 0))
      rw [← List.map_set, fill_step (fun i => zs.getD i 0) _ k (by simp; omega)] at hst
      rw [List.getElem?_eq_getElem (by have := hown.1; omega)] at hcell
      have Hst := Lib.hid hst
      have i1 : (k : Int) < (n : Int) := by omega
      clear hst
      go_wp2_with fail
      go_roundw
      case rel => exact ⟨k + 1, by omega, by go_num, by simpa using Hst.out.1, gbN hg Hst.out.2 (by simp)⟩
      case measure => simp [intOf]; omega
    · have hkn : k = n := by omega
      subst hkn
      go_wp2_with fail
      go_ret
      rw [range_getD 0 zs k lx.out] at hown
      exact ⟨_, rfl, by simpa using hown, hg⟩
def IntsK (k : IntKind) (w : World) (A : Option Addr) (n : Nat) (zs : List Int) : Prop := Rd w 1 A n (zs.map (Value.int k)) ∧ (∀ z ∈ zs, (Lit.int k z).wf = true)
theorem IntsK.ints {w : World} {A : Option Addr} {n : Nat} {zs : List Int} (h : IntsK .i64 w A n zs) : Ints w A n zs := h.1
end Go.Proofs.Ythdfkiaoahpjpaa
