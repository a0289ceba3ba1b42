/-
  The laws' helpers, by what a value reads as: slices of plain elements (printed by wip/gen_k.py).
-/
import Derived.Test.YthdfkiaoahpjpaaMgFnExactCheckCopies9
namespace Go.Proofs.Ythdfkiaoahpjpaa
open Go.RowKit
set_option linter.unusedVariables false
set_option linter.unusedSimpArgs false
def szO (l m : Nat) : Int := if m ≤ l then ((l - m : Nat) : Int) else -1
theorem szO_yes {l m : Nat} (h : m ≤ l) : szO l m = ((l - m : Nat) : Int) := if_pos h
theorem szO_no {l m : Nat} (h : l < m) : szO l m = -1 := if_neg (by omega)
theorem own_growK (c : CS) {w w' : World} {F : List Nat} {v : Value} (h : c.own w F v) (hg : w.grownBy w' none) : c.own w' F v := c.kept h fun g hg' => hg.block g (c.lt h g hg') (by simp)
theorem own_setK (c : CS) {w : World} {F : List Nat} {v : Value} (h : c.own w F v) (p : Addr) (hp : p.block ∉ F) (u : Value) : c.own (w.setCell p u) F v := c.kept h fun g hg' => Below.heap_setCell w p u g (fun e => hp (e ▸ hg'))
theorem own_chgK (c : CS) {w w' : World} {F : List Nat} {S : Nat → Prop} {v : Value} (h : c.own w F v) (k : Chg S w w') (hs : ∀ g ∈ F, ¬ S g) : c.own w' F v := c.kept h fun g hg' => k.block g (c.lt h g hg') (hs g hg')
theorem ownAll_growK {w w' : World} {cs : List CS} {vs : List Value} {Fs : List (List Nat)} (h : OwnAll w cs vs Fs) (hg : w.grownBy w' none) : OwnAll w' cs vs Fs := h.kept fun g hg' => hg.block g (h.lt g hg') (by simp)
theorem fbC_one (x : Bool) : ∀ u ∈ fbC x, u.oneCell' = true := by simp [fbC, Value.oneCell']
theorem flat_fbC (xs : List Bool) : xs.flatMap fbC = xs.map Value.bool := flat_one _ xs
set_option maxHeartbeats 400000 in
theorem toBoolS_c (A : Option Addr) (n c : Nat) (zs : List Bool) (w : World) (hx : Bools w A n zs) (hn : n ≤ 1099511627776) :
    Calls Try.prog 41 #[.slice A n c] w fun e w' => ∃ g, e = .returned (.slice (some ⟨g, 0, none⟩) n n) ∧ w'.ownsRow w.heap.size 4 1 (.slice (some ⟨g, 0, none⟩) n n) n (zs.map Value.bool) ∧ w.grownBy w' none := by
  have lx := Lib.hid hx.len
  go_enter Try.func41, Try.ntmps41
  go_wp2_with (at_make; refine wp_makeN _ el_bool rfl _ _ rfl n rfl rfl (by omega) (by unfold maxLen; omega) ?_; intro w1 hown1 hg1; rw [show (Value.bool false).cells = #[.bool false] from rfl, made_one] at hown1)
  go_loopw [4] (fun i wr => ∃ k : Nat, k ≤ n ∧ i = .int .i64 k ∧ wr.ownsRow w.heap.size 4 1 (.slice (some ⟨w.heap.size, 0, none⟩) n n) n (((List.range k).map (fun i => zs.getD i false) ++ (List.replicate n false).drop k).map Value.bool) ∧ w.grownBy wr none) (fun i _ => n - (intOf i).toNat)
  case atStart => exact ⟨0, Nat.zero_le _, rfl, by simpa using hown1, hg1⟩
  case round =>
    obtain ⟨k, hk, rfl, hown, hg⟩ := hrel
    by_cases hlt : k < n
    · obtain ⟨b, o, rfl, hb, hc⟩ := (show Bools wr A n zs from Rd.grow hx hg).at_ (by omega)
      have c1 := hc k hlt
      clear hc
      have hcell := hown.cellAt k (by omega)
      have hfr := hown.frozenAt k
      have hst := hown.stored k (.bool (zs.getD k false))
      rw [← List.map_set, fill_step (fun i => zs.getD i false) _ k (by simp; omega)] at hst
      rw [List.getElem?_eq_getElem (by have := hown.1; omega)] at hcell
      have Hst := Lib.hid hst
      have i1 : (k : Int) < (n : Int) := by omega
      clear hst
      go_wp2_with fail
      go_roundw
      case rel => exact ⟨k + 1, by omega, by go_num, by simpa using Hst.out.1, gbN hg Hst.out.2 (by simp)⟩
      case measure => simp [intOf]; omega
    · have hkn : k = n := by omega
      subst hkn
      go_wp2_with fail
      go_ret
      rw [range_getD false zs k lx.out] at hown
      exact ⟨_, rfl, by simpa using hown, hg⟩
abbrev cgates (xs : List (Int × Int × Int)) : CS := plst 41 3 c3 xs
theorem toIntS_k (xs : List (Int)) (v : Value) (w : World) (h : (cints xs).rd w v) (hn : xs.length ≤ 1048576) :
    Calls Try.prog 29 #[v] w fun e w' => ∃ u F, e = .returned u ∧ (cints xs).own w' F u ∧ (∀ g ∈ F, w.heap.size ≤ g) ∧ w.grownBy w' none := by
  obtain ⟨A, c, rfl, hc, hm, hI⟩ := plst_rd (s := 1) (fun _ => rfl) (by omega) h
  refine (toIntS_c A _ c xs w (by have := hI.rd; rw [flat_fiC] at this; exact this) (by omega)).mono ?_
  rintro e w' ⟨g, rfl, ho, hg⟩
  have hlt := fun g' hg' => (ho.lt g' hg').1
  exact ⟨_, _, rfl, (by rw [← flat_fiC] at ho; exact plst_own (s := 1) (fun _ => rfl) (by omega) fiC_one ho), fun g' hg' => hlt g' (by simpa using hg'), hg⟩
theorem eqIntS_k (xs : List (Int)) (v u : Value) (w : World) (h : (cints xs).rd w v) (k : (cints xs).rd w u) (hn : xs.length ≤ 1048576) :
    Calls Try.prog 33 #[v, u] w fun e w' => e = .returned (.bool true) ∧ w.grownBy w' none := by
  obtain ⟨A, c, rfl, hc, hm, hI⟩ := plst_rd (s := 1) (fun _ => rfl) (by omega) h
  obtain ⟨B, d, rfl, hd, _, hJ⟩ := plst_rd (s := 1) (fun _ => rfl) (by omega) k
  refine (eqIntS_c A B _ _ c d xs xs w (by have := hI.rd; rw [flat_fiC] at this; exact this) (by have := hJ.rd; rw [flat_fiC] at this; exact this) (by omega) (by omega)).mono ?_
  rintro e w' ⟨rfl, q, rfl⟩
  exact ⟨by rw [beq_self_eq_true], gbDN (gbR _ _) _⟩
theorem szIntS_k (xs : List (Int)) (v : Value) (l : Nat) (w : World) (h : (cints xs).rd w v) (hl : l ≤ 1048576) :
    Calls Try.prog 71 #[v, .int .i64 l] w fun e w' => e = .returned (.int .i64 (szO l xs.length)) ∧ w.grownBy w' none := by
  obtain ⟨A, c, rfl, hc, hm, hI⟩ := plst_rd (s := 1) (fun _ => rfl) (by omega) h
  have hn : xs.length ≤ 9223372036854775807 := by unfold maxLen at hm; omega
  clear hI hm
  generalize xs.length = n at *
  by_cases hb : n ≤ l
  · have HB := Lib.hid hb
    have h' : ¬ ((l : Int) - (n : Int) < 0) := by omega
    go_enter Try.func71, Try.ntmps71
    go_wp2_with fail
    go_ret
    exact ⟨retI (by rw [szO_yes HB.out]; omega), gbR _ _⟩
  · have HB := Lib.hid hb
    have h' : (l : Int) - (n : Int) < 0 := by omega
    go_enter Try.func71, Try.ntmps71
    go_wp2_with fail
    go_ret
    exact ⟨retI (by rw [szO_no (by have := HB.out; omega)]), gbR _ _⟩
theorem toBoolS_k (xs : List (Bool)) (v : Value) (w : World) (h : (cbools xs).rd w v) (hn : xs.length ≤ 1048576) :
    Calls Try.prog 41 #[v] w fun e w' => ∃ u F, e = .returned u ∧ (cbools xs).own w' F u ∧ (∀ g ∈ F, w.heap.size ≤ g) ∧ w.grownBy w' none := by
  obtain ⟨A, c, rfl, hc, hm, hI⟩ := plst_rd (s := 1) (fun _ => rfl) (by omega) h
  refine (toBoolS_c A _ c xs w (by have := hI.rd; rw [flat_fbC] at this; exact this) (by omega)).mono ?_
  rintro e w' ⟨g, rfl, ho, hg⟩
  have hlt := fun g' hg' => (ho.lt g' hg').1
  exact ⟨_, _, rfl, (by rw [← flat_fbC] at ho; exact plst_own (s := 1) (fun _ => rfl) (by omega) fbC_one ho), fun g' hg' => hlt g' (by simpa using hg'), hg⟩
theorem eqBoolS_k (xs : List (Bool)) (v u : Value) (w : World) (h : (cbools xs).rd w v) (k : (cbools xs).rd w u) (hn : xs.length ≤ 1048576) :
    Calls Try.prog 43 #[v, u] w fun e w' => e = .returned (.bool true) ∧ w.grownBy w' none := by
  obtain ⟨A, c, rfl, hc, hm, hI⟩ := plst_rd (s := 1) (fun _ => rfl) (by omega) h
  obtain ⟨B, d, rfl, hd, _, hJ⟩ := plst_rd (s := 1) (fun _ => rfl) (by omega) k
  refine (eqBoolS_c A B _ _ c d xs xs w (by have := hI.rd; rw [flat_fbC] at this; exact this) (by have := hJ.rd; rw [flat_fbC] at this; exact this) (by omega) (by omega)).mono ?_
  rintro e w' ⟨rfl, q, rfl⟩
  exact ⟨by rw [beq_self_eq_true], gbDN (gbR _ _) _⟩
theorem toGateS_k (xs : List (Int × Int × Int)) (v : Value) (w : World) (h : (cgates xs).rd w v) (hn : xs.length ≤ 1048576) :
    Calls Try.prog 74 #[v] w fun e w' => ∃ u F, e = .returned u ∧ (cgates xs).own w' F u ∧ (∀ g ∈ F, w.heap.size ≤ g) ∧ w.grownBy w' none := by
  obtain ⟨A, c, rfl, hc, hm, hI⟩ := plst_rd (s := 3) (fun _ => rfl) (by omega) h
  refine (toGateS_c A _ c xs w hI (by omega)).mono ?_
  rintro e w' ⟨g, rfl, ho, hg⟩
  have hlt := fun g' hg' => (ho.lt g' hg').1
  exact ⟨_, _, rfl, (plst_own (s := 3) (fun _ => rfl) (by omega) c3_one ho), fun g' hg' => hlt g' (by simpa using hg'), hg⟩
theorem eqGateS_k (xs : List (Int × Int × Int)) (v u : Value) (w : World) (h : (cgates xs).rd w v) (k : (cgates xs).rd w u) (hn : xs.length ≤ 1048576) :
    Calls Try.prog 79 #[v, u] w fun e w' => e = .returned (.bool true) ∧ w.grownBy w' none := by
  obtain ⟨A, c, rfl, hc, hm, hI⟩ := plst_rd (s := 3) (fun _ => rfl) (by omega) h
  obtain ⟨B, d, rfl, hd, _, hJ⟩ := plst_rd (s := 3) (fun _ => rfl) (by omega) k
  exact eqGateS_c A B _ c d xs w hI hJ (by omega)
theorem szGateS_k (xs : List (Int × Int × Int)) (v : Value) (l : Nat) (w : World) (h : (cgates xs).rd w v) (hl : l ≤ 1048576) :
    Calls Try.prog 70 #[v, .int .i64 l] w fun e w' => e = .returned (.int .i64 (szO l xs.length)) ∧ w.grownBy w' none := by
  obtain ⟨A, c, rfl, hc, hm, hI⟩ := plst_rd (s := 3) (fun _ => rfl) (by omega) h
  have hn : xs.length ≤ 9223372036854775807 := by unfold maxLen at hm; omega
  clear hI hm
  generalize xs.length = n at *
  by_cases hb : n ≤ l
  · have HB := Lib.hid hb
    have h' : ¬ ((l : Int) - (n : Int) < 0) := by omega
    go_enter Try.func70, Try.ntmps70
    go_wp2_with fail
    go_ret
    exact ⟨retI (by rw [szO_yes HB.out]; omega), gbR _ _⟩
  · have HB := Lib.hid hb
    have h' : (l : Int) - (n : Int) < 0 := by omega
    go_enter Try.func70, Try.ntmps70
    go_wp2_with fail
    go_ret
    exact ⟨retI (by rw [szO_no (by have := HB.out; omega)]), gbR _ _⟩
end Go.Proofs.Ythdfkiaoahpjpaa
