/-
  Contracts of the laws' small helpers on slices of bools: eqBoolS, heldBoolS, markBoolS.
-/
import Derived.Test.YthdfkiaoahpjpaaMgFnExactCopiesNew11
namespace Go.Proofs.Ythdfkiaoahpjpaa
open Go.RowKit
set_option linter.unusedVariables false
set_option linter.unusedSimpArgs false
def Bools (w : World) (A : Option Addr) (n : Nat) (zs : List Bool) : Prop := Rd w 1 A n (zs.map Value.bool)
theorem Bools.len {w : World} {A : Option Addr} {n : Nat} {zs : List Bool} (h : Bools w A n zs) : zs.length = n := by simpa using h.1
theorem Bools.at_ {w : World} {A : Option Addr} {n : Nat} {zs : List Bool} (h : Bools w A n zs) (hn : 0 < n) :
    ∃ b o, A = some ⟨b, o, none⟩ ∧ b < w.heap.size ∧ ∀ j, j < n → w.cell? ⟨b, o + j, none⟩ = some (.bool (zs.getD j false)) := by
  obtain ⟨b, o, e, hb, hc⟩ := h.2 hn
  refine ⟨b, o, e, hb, fun j hj => ?_⟩
  have hl := h.len
  rw [hc j (by omega)]
  simp [List.getElem?_map, List.getD_eq_getElem?_getD, List.getElem?_eq_getElem (show j < zs.length by omega)]
end Go.Proofs.Ythdfkiaoahpjpaa
/-
  The laws' helpers, by what a value reads as: slices of plain elements (printed by wip/gen_k.py).
-/
namespace Go.Proofs.Ythdfkiaoahpjpaa
open Go.RowKit
set_option linter.unusedVariables false
set_option linter.unusedSimpArgs false
def szO (l m : Nat) : Int := if m ≤ l then ((l - m : Nat) : Int) else -1
theorem szO_yes {l m : Nat} (h : m ≤ l) : szO l m = ((l - m : Nat) : Int) := if_pos h
theorem szO_no {l m : Nat} (h : l < m) : szO l m = -1 := if_neg (by omega)
theorem own_growK (c : CS) {w w' : World} {F : List Nat} {v : Value} (h : c.own w F v) (hg : w.grownBy w' none) : c.own w' F v := c.kept h fun g hg' => hg.block g (c.lt h g hg') (by simp)
theorem own_setK (c : CS) {w : World} {F : List Nat} {v : Value} (h : c.own w F v) (p : Addr) (hp : p.block ∉ F) (u : Value) : c.own (w.setCell p u) F v := c.kept h fun g hg' => Below.heap_setCell w p u g (fun e => hp (e ▸ hg'))
theorem own_chgK (c : CS) {w w' : World} {F : List Nat} {S : Nat → Prop} {v : Value} (h : c.own w F v) (k : Chg S w w') (hs : ∀ g ∈ F, ¬ S g) : c.own w' F v := c.kept h fun g hg' => k.block g (c.lt h g hg') (hs g hg')
theorem ownAll_growK {w w' : World} {cs : List CS} {vs : List Value} {Fs : List (List Nat)} (h : OwnAll w cs vs Fs) (hg : w.grownBy w' none) : OwnAll w' cs vs Fs := h.kept fun g hg' => hg.block g (h.lt g hg') (by simp)
theorem blk_chg {w w' : World} {g : Nat} {t : TypeId} {cs : Array Value} {S : Nat → Prop} (h : Blk w g t cs) (k : Chg S w w') (hs : ¬ S g) : Blk w' g t cs := (k.block g h.lt hs).trans h
abbrev cgates (xs : List (Int × Int × Int)) : CS := plst 41 3 c3 xs
theorem toIntS_k (xs : List (Int)) (v : Value) (w : World) (h : (cints xs).rd w v) (hn : xs.length ≤ 1048576) :
    Calls Try.prog 29 #[v] w fun e w' => ∃ u F, e = .returned u ∧ (cints xs).own w' F u ∧ (∀ g ∈ F, w.heap.size ≤ g) ∧ w.grownBy w' none := by
  obtain ⟨A, c, rfl, hc, hm, hI⟩ := plst_rd (s := 1) (fun _ => rfl) (by omega) h
  refine (toIntS_c A _ c xs w (by have := hI.rd; rw [flat_fiC] at this; exact this) (by omega)).mono ?_
  rintro e w' ⟨g, rfl, ho, hg⟩
  have hlt := fun g' hg' => (ho.lt g' hg').1
  exact ⟨_, _, rfl, (by rw [← flat_fiC] at ho; exact plst_own (s := 1) (fun _ => rfl) (by omega) fiC_one ho), fun g' hg' => hlt g' (by simpa using hg'), hg⟩
theorem eqIntS_k (xs : List (Int)) (v u : Value) (w : World) (h : (cints xs).rd w v) (k : (cints xs).rd w u) (hn : xs.length ≤ 1048576) :
    Calls Try.prog 33 #[v, u] w fun e w' => e = .returned (.bool true) ∧ w.grownBy w' none := by
  obtain ⟨A, c, rfl, hc, hm, hI⟩ := plst_rd (s := 1) (fun _ => rfl) (by omega) h
  obtain ⟨B, d, rfl, hd, _, hJ⟩ := plst_rd (s := 1) (fun _ => rfl) (by omega) k
  refine (eqIntS_c A B _ _ c d xs xs w (by have := hI.rd; rw [flat_fiC] at this; exact this) (by have := hJ.rd; rw [flat_fiC] at this; exact this) (by omega) (by omega)).mono ?_
  rintro e w' ⟨rfl, q, rfl⟩
  exact ⟨by rw [beq_self_eq_true], gbDN (gbR _ _) _⟩
theorem szIntS_k (xs : List (Int)) (v : Value) (l : Nat) (w : World) (h : (cints xs).rd w v) (hl : l ≤ 1048576) :
    Calls Try.prog 71 #[v, .int .i64 l] w fun e w' => e = .returned (.int .i64 (szO l xs.length)) ∧ w.grownBy w' none := by
  obtain ⟨A, c, rfl, hc, hm, hI⟩ := plst_rd (s := 1) (fun _ => rfl) (by omega) h
  have hn : xs.length ≤ 9223372036854775807 := by unfold maxLen at hm; omega
  clear hI hm
  generalize xs.length = n at *
  by_cases hb : n ≤ l
  · have HB := Lib.hid hb
    have h' : ¬ ((l : Int) - (n : Int) < 0) := by omega
    go_enter Try.func71, Try.ntmps71
    go_wp2_with fail
    go_ret
    exact ⟨retI (by rw [szO_yes HB.out]; omega), gbR _ _⟩
  · have HB := Lib.hid hb
    have h' : (l : Int) - (n : Int) < 0 := by omega
    go_enter Try.func71, Try.ntmps71
    go_wp2_with fail
    go_ret
    exact ⟨retI (by rw [szO_no (by have := HB.out; omega)]), gbR _ _⟩
theorem markIntS_k (xs : List (Int)) (v : Value) (F : List Nat) (k0 : Int) (w : World) (h : (cints xs).own w F v) (hn : xs.length ≤ 1048576) (h0 : 0 ≤ k0) (h1 : k0 ≤ 549755813888) :
    Calls Try.prog 35 #[v, .int .i64 k0] w fun e w' => e = .returned (.int .i64 (k0 + xs.length)) ∧ (cints (marks k0 xs.length)).own w' F v ∧ Chg (fun g => g ∈ F) w w' := by
  obtain ⟨A, c, rfl, hF, hr⟩ := plst_row (s := 1) (fun _ => rfl) (by omega) h
  refine (markIntS_c 0 A _ c xs k0 w (by have := hr 0 (fun _ _ => Nat.zero_le _); rw [flat_fiC] at this; exact this) (by omega) h0 (by omega)).mono ?_
  rintro e w' ⟨rfl, ho, hg⟩
  subst hF
  exact ⟨rfl, (by rw [← flat_fiC] at ho; exact plst_own (s := 1) (fun _ => rfl) (by omega) fiC_one ho), Chg.of hg fun g hg' => by rw [← ownB A xs.length c] at hg'; rw [hg']; simp⟩
theorem heldIntS_k (n : Nat) (v : Value) (k0 : Int) (w : World) (h : (cints (marks k0 n)).rd w v) (hn : n ≤ 1048576) (h0 : 0 ≤ k0) (h1 : k0 ≤ 549755813888) :
    Calls Try.prog 81 #[v, .int .i64 k0] w fun e w' => e = .returned (.int .i64 (k0 + n)) ∧ w.grownBy w' none := by
  obtain ⟨A, c, rfl, hc, hm, hI⟩ := plst_rd (s := 1) (fun _ => rfl) (by omega) h
  have hl : (marks k0 n).length = n := by simp [marks]
  rw [hl] at hI ⊢
  refine (heldIntS_c A n c k0 w (by have := hI.rd; rw [flat_fiC] at this; exact this) (by omega) h0 (by omega)).mono ?_
  rintro e w' ⟨rfl, rfl⟩
  exact ⟨rfl, gbR _ _⟩
theorem toGateS_k (xs : List (Int × Int × Int)) (v : Value) (w : World) (h : (cgates xs).rd w v) (hn : xs.length ≤ 1048576) :
    Calls Try.prog 74 #[v] w fun e w' => ∃ u F, e = .returned u ∧ (cgates xs).own w' F u ∧ (∀ g ∈ F, w.heap.size ≤ g) ∧ w.grownBy w' none := by
  obtain ⟨A, c, rfl, hc, hm, hI⟩ := plst_rd (s := 3) (fun _ => rfl) (by omega) h
  refine (toGateS_c A _ c xs w hI (by omega)).mono ?_
  rintro e w' ⟨g, rfl, ho, hg⟩
  have hlt := fun g' hg' => (ho.lt g' hg').1
  exact ⟨_, _, rfl, (plst_own (s := 3) (fun _ => rfl) (by omega) c3_one ho), fun g' hg' => hlt g' (by simpa using hg'), hg⟩
theorem eqGateS_k (xs : List (Int × Int × Int)) (v u : Value) (w : World) (h : (cgates xs).rd w v) (k : (cgates xs).rd w u) (hn : xs.length ≤ 1048576) :
    Calls Try.prog 79 #[v, u] w fun e w' => e = .returned (.bool true) ∧ w.grownBy w' none := by
  obtain ⟨A, c, rfl, hc, hm, hI⟩ := plst_rd (s := 3) (fun _ => rfl) (by omega) h
  obtain ⟨B, d, rfl, hd, _, hJ⟩ := plst_rd (s := 3) (fun _ => rfl) (by omega) k
  exact eqGateS_c A B _ c d xs w hI hJ (by omega)
theorem szGateS_k (xs : List (Int × Int × Int)) (v : Value) (l : Nat) (w : World) (h : (cgates xs).rd w v) (hl : l ≤ 1048576) :
    Calls Try.prog 70 #[v, .int .i64 l] w fun e w' => e = .returned (.int .i64 (szO l xs.length)) ∧ w.grownBy w' none := by
  obtain ⟨A, c, rfl, hc, hm, hI⟩ := plst_rd (s := 3) (fun _ => rfl) (by omega) h
  have hn : xs.length ≤ 9223372036854775807 := by unfold maxLen at hm; omega
  clear hI hm
  generalize xs.length = n at *
  by_cases hb : n ≤ l
  · have HB := Lib.hid hb
    have h' : ¬ ((l : Int) - (n : Int) < 0) := by omega
    go_enter Try.func70, Try.ntmps70
    go_wp2_with fail
    go_ret
    exact ⟨retI (by rw [szO_yes HB.out]; omega), gbR _ _⟩
  · have HB := Lib.hid hb
    have h' : (l : Int) - (n : Int) < 0 := by omega
    go_enter Try.func70, Try.ntmps70
    go_wp2_with fail
    go_ret
    exact ⟨retI (by rw [szO_no (by have := HB.out; omega)]), gbR _ _⟩
theorem markGateS_k (xs : List (Int × Int × Int)) (v : Value) (F : List Nat) (k0 : Int) (w : World) (h : (cgates xs).own w F v) (hn : xs.length ≤ 1048576) (h0 : 0 ≤ k0) (h1 : k0 ≤ 549755813888) :
    Calls Try.prog 80 #[v, .int .i64 k0] w fun e w' => e = .returned (.int .i64 (k0 + 3 * xs.length)) ∧ (cgates (mk3 k0 xs.length)).own w' F v ∧ Chg (fun g => g ∈ F) w w' := by
  obtain ⟨A, c, rfl, hF, hr⟩ := plst_row (s := 3) (fun _ => rfl) (by omega) h
  refine (markGateS_c 0 A _ c xs k0 w (hr 0 (fun _ _ => Nat.zero_le _)) (by omega) h0 (by omega)).mono ?_
  rintro e w' ⟨rfl, ho, hg⟩
  subst hF
  exact ⟨rfl, (plst_own (s := 3) (fun _ => rfl) (by omega) c3_one ho), Chg.of hg fun g hg' => by rw [← ownB A xs.length c] at hg'; rw [hg']; simp⟩
end Go.Proofs.Ythdfkiaoahpjpaa
