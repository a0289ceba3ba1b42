/-
  A draw out of a list.
-/
import Derived.Test.YtapljpcpmdlppaaMgFnArithmetics19
import Derived.Test.YtapljpcpmdlppaaMgFnArithmetics18
namespace Go.Proofs.Ytapljpcpmdlppaa
open Go.RowKit
set_option linter.unusedVariables false
set_option linter.unusedSimpArgs false
/-- What l01PickInt hands back: one of the list. -/
def PickOut (w : World) (l : List Int) (g : Nat) (A : Option Addr) (n c : Nat) (bs : List Int) (e : Ending) (w' : World) : Prop :=
  ∃ x : Int, e = .returned (.int .i64 x) ∧ x ∈ l ∧ Cur w' g A n c bs ∧ w.grownBy w' (some g)
set_option maxHeartbeats 400000 in
theorem l01PickInt_c (w : World) (B : Option Addr) (m d : Nat) (l : List Int) (hl : Ints w B m l) (hm : 1 ≤ m) (hm2 : m ≤ 1099511627776) (g : Nat) (hB : Off B (some g)) (A : Option Addr) (n c : Nat) (bs : List Int) (hc : Cur w g A n c bs) :
    Calls Try.prog 154 #[.pointer (some ⟨g, 0, none⟩), .slice B m d] w (PickOut w l g A n c bs) := by
  have HC := Lib.hid hc
  have HL := Lib.hid hl
  have LL := Lib.hid hl.len
  clear hc hl
  go_enter Try.func154, Try.ntmps154
  go_wp2_with fail
  refine (l01Below_c _ m (by omega) g A n c bs HC.out).mono ?_
  rintro e w1 ⟨x, rfl, hx0, hx1, hc1, hg1⟩
  have H1 := Lib.hid hc1
  clear hc1
  obtain ⟨k, rfl⟩ := Int.eq_ofNat_of_zero_le hx0
  have hk : k < m := by have := hx1 (by omega); omega
  have i1 : (k : Int) < (m : Int) := by omega
  obtain ⟨b, o, rfl, hb, c1⟩ := (HL.out.grown hg1 hB).cell hk
  have hkl : k < l.length := by have := LL.out; omega
  rw [getI l k hkl] at c1
  clear hx1
  go_wp2_with fail
  go_ret
  exact ⟨_, rfl, List.getElem_mem hkl, H1.out, hg1⟩
end Go.Proofs.Ytapljpcpmdlppaa
/-
  FnSubsets' walk.
-/
namespace Go.Proofs.Ytapljpcpmdlppaa
open Go.RowKit
set_option linter.unusedVariables false
set_option linter.unusedSimpArgs false
theorem bytesIn {w : World} {A : Option Addr} {n : Nat} {zs : List Int} (h : IntsK .u8 w A n zs) (hn : n ≤ 1048576) : BytesIn w A n zs := ⟨h.1, fun b hb => wf_u8 (h.2 b hb), hn⟩
theorem Places.at_ {qs : List Int} (h : Places qs) (k : Nat) (hk : k < 12) : 0 ≤ qs.getD k 0 ∧ qs.getD k 0 < 10000 := by
  obtain ⟨hl, hq⟩ := h
  rw [getI qs k (by omega)]
  exact hq _ (List.getElem_mem _)
/-- A call of big. -/
theorem big_c (w : World) (A : Option Addr) (n c : Nat) (hn : n ≤ 9223372036854775807) :
    Calls Try.prog 26 #[.slice A n c] w fun e w' => e = .returned (.bool (decide (1048576 < n))) ∧ w = w' := by
  by_cases h : 1048576 < n
  · have h1 : (1048576 : Int) < (n : Int) := by omega
    go_enter Try.func26, Try.ntmps26
    go_wp2_with fail
    go_ret
    exact ⟨retB (by first | (simp; done) | (simp; omega)), rfl⟩
  · have h1 : ¬ (1048576 : Int) < (n : Int) := by omega
    go_enter Try.func26, Try.ntmps26
    go_wp2_with fail
    go_ret
    exact ⟨retB (by first | (simp; done) | (simp; omega)), rfl⟩
end Go.Proofs.Ytapljpcpmdlppaa
/-
  A drawn prime; FnConverted's walk.
-/
namespace Go.Proofs.Ytapljpcpmdlppaa
open Go.RowKit
set_option linter.unusedVariables false
set_option linter.unusedSimpArgs false
theorem ints_new (w : World) (t : TypeId) (zs : List Int) : Ints (w.alloc (.cells (zs.map (Value.int .i64)).toArray t)) (some ⟨w.heap.size, 0, none⟩) zs.length zs := by
  refine ⟨by simp, fun _ => ⟨w.heap.size, 0, rfl, by simp, fun j hj => ?_⟩⟩
  rw [cell_of_row _ _ _ _ t (0, 0) (heap_alloc_new w _)]
  simp
def nine : List Int := [2, 3, 5, 7, 11, 13, 31, 97, 101]
theorem nine_field : ∀ p ∈ nine, fieldB p = true := by decide
set_option maxHeartbeats 400000 in
theorem l03Prime_c (w : World) (g : Nat) (A : Option Addr) (n c : Nat) (bs : List Int) (hc : Cur w g A n c bs) :
    Calls Try.prog 84 #[.pointer (some ⟨g, 0, none⟩)] w fun e w' => ∃ x : Int, e = .returned (.int .i64 x) ∧ x ∈ nine ∧ Cur w' g A n c bs ∧ w.grownBy w' (some g) := by
  have HC := Lib.hid hc
  have hlt := hc.lt
  clear hc
  go_enter Try.func84, Try.ntmps84
  go_wp2_with fail
  refine (l01PickInt_c _ _ 9 9 nine (ints_new w _ nine) (by omega) (by omega) g (fun a ha e => by injection ha with ha; subst ha; injection e with e; simp at e; omega) A n c bs (HC.out.grow (gbA (gbR _ _) _))).mono ?_
  rintro e w1 ⟨x, rfl, hx, hc1, hg1⟩
  have H1 := Lib.hid hc1
  have HX := Lib.hid hx
  have G1 := Lib.hid (gbT (gbW (gbA (gbR w none) _)) hg1)
  clear hc1 hx hg1
  go_wp2_with fail
  go_ret
  exact ⟨x, rfl, HX.out, H1.out, G1.out⟩
set_option maxHeartbeats 400000 in
theorem DrawPrime_c (w : World) (A : Option Addr) (n c : Nat) (bs : List Int) (h : BytesIn w A n bs) :
    Calls Try.prog 27 #[.slice A n c] w fun e w' => ∃ x : Int, e = .returned (.int .i64 x) ∧ x ∈ nine ∧ w.grownBy w' none := by
  have H := Lib.hid h
  clear h
  go_enter Try.func27, Try.ntmps27
  go_wp2_with fail
  refine (l01New_c _ A n c bs H.out).mono ?_
  rintro e w1 ⟨rfl, hc1, hg1, hz1⟩
  have HC := Lib.hid hc1
  have HG := Lib.hid hg1
  clear hc1 hg1 hz1
  go_wp2_with fail
  refine (l03Prime_c _ _ A n c bs HC.out).mono ?_
  rintro e w2 ⟨x, rfl, hx, hc2, hg2⟩
  have HX := Lib.hid hx
  have G2 := Lib.hid (gbN HG.out hg2 (fun b e => by injection e with e; omega))
  clear hc2 hx hg2
  go_wp2_with fail
  go_ret
  exact ⟨x, rfl, HX.out, G2.out⟩
/-- A number below a drawn prime comes back from its bits. -/
def backB (p x : Nat) : Bool := decide (numTo (bitList x (fb p)) (fb p) = x) && decide ((dotTo p (bitList x (fb p)) (fb p)).1 = x) && decide (p ≤ 2 ^ fb p) && decide (2 ^ fb p < 2 * p)
theorem back_all : ∀ p ∈ ([2, 3, 5, 7, 11, 13, 31, 97, 101] : List Nat), ∀ x : Nat, x < p → backB p x = true := by decide +kernel
theorem bitList_bits (x n : Nat) : ∀ b ∈ bitList x n, 0 ≤ b ∧ b ≤ 1 := by
  intro b hb
  obtain ⟨i, _, rfl⟩ := List.mem_map.1 hb
  unfold bitAt
  omega
theorem bitsB_list (x n : Nat) : bitsB (bitList x n) = true := by
  simp only [bitsB, List.all_eq_true, Bool.and_eq_true, decide_eq_true_eq]
  exact bitList_bits x n
theorem dotB_list {p : Int} (hf : fieldB p = true) (x n : Nat) (hn : n ≤ 32) : dotB p (bitList x n) = true := by
  have := field_range hf
  simp only [dotB, Bool.and_eq_true, decide_eq_true_eq, bitList_length]
  exact ⟨elemsB_mk hf fun a ha => by have := bitList_bits x n a ha; omega, hn⟩
theorem nine_nat {p : Int} (h : p ∈ nine) : ∃ P : Nat, p = P ∧ P ∈ ([2, 3, 5, 7, 11, 13, 31, 97, 101] : List Nat) := by
  simp only [nine, List.mem_cons, List.not_mem_nil, or_false] at h
  rcases h with rfl | rfl | rfl | rfl | rfl | rfl | rfl | rfl | rfl <;> exact ⟨_, rfl, by simp⟩
end Go.Proofs.Ytapljpcpmdlppaa
