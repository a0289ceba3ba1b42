/-
  A draw out of a list.
-/
import Derived.Test.YthdfkiaoahpjpaaMgFnCaught14
import Derived.Test.YthdfkiaoahpjpaaMgFnCaught13
import Derived.Deep.DeepCutAuto
namespace Go.Proofs.Ythdfkiaoahpjpaa
open Go.RowKit
set_option linter.unusedVariables false
set_option linter.unusedSimpArgs false
def PickOut (w : World) (l : List Int) (g : Nat) (A : Option Addr) (n c : Nat) (bs : List Int) (e : Ending) (w' : World) : Prop :=
  ∃ x : Int, e = .returned (.int .i64 x) ∧ x ∈ l ∧ Cur w' g A n c bs ∧ w.grownBy w' (some g)
set_option maxHeartbeats 400000 in
theorem l01PickInt_c (w : World) (B : Option Addr) (m d : Nat) (l : List Int) (hl : Ints w B m l) (hm : 1 ≤ m) (hm2 : m ≤ 1099511627776) (g : Nat) (hB : Off B (some g)) (A : Option Addr) (n c : Nat) (bs : List Int) (hc : Cur w g A n c bs) :
    Calls Try.prog 127 #[.pointer (some ⟨g, 0, none⟩), .slice B m d] w (PickOut w l g A n c bs) := by
  have HC := Lib.hid hc
  have HL := Lib.hid hl
  have LL := Lib.hid hl.len
  clear hc hl
  go_enter Try.func127, Try.ntmps127
  go_wp2_with fail
  refine (l01Below_c _ m (by omega) g A n c bs HC.out).mono ?_
  rintro e w1 ⟨x, rfl, hx0, hx1, hc1, hg1⟩
  have H1 := Lib.hid hc1
  clear hc1
  obtain ⟨k, rfl⟩ := Int.eq_ofNat_of_zero_le hx0
  have hk : k < m := by have := hx1 (by omega); omega
  have i1 : (k : Int) < (m : Int) := by omega
  obtain ⟨b, o, rfl, hb, c1⟩ := (HL.out.grown hg1 hB).cell hk
  have hkl : k < l.length := by have := LL.out; omega
  rw [getI l k hkl] at c1
  clear hx1
  go_wp2_with fail
  go_ret
  exact ⟨_, rfl, List.getElem_mem hkl, H1.out, hg1⟩
end Go.Proofs.Ythdfkiaoahpjpaa
/-
  FnSubsets' walk.
-/
namespace Go.Proofs.Ythdfkiaoahpjpaa
open Go.RowKit
set_option linter.unusedVariables false
set_option linter.unusedSimpArgs false
theorem bytesIn {w : World} {A : Option Addr} {n : Nat} {zs : List Int} (h : IntsK .u8 w A n zs) (hn : n ≤ 1048576) : BytesIn w A n zs := ⟨h.1, fun b hb => wf_u8 (h.2 b hb), hn⟩
theorem Places.at_ {qs : List Int} (h : Places qs) (k : Nat) (hk : k < 12) : 0 ≤ qs.getD k 0 ∧ qs.getD k 0 < 10000 := by
  obtain ⟨hl, hq⟩ := h
  rw [getI qs k (by omega)]
  exact hq _ (List.getElem_mem _)
theorem big_c (w : World) (A : Option Addr) (n c : Nat) (hn : n ≤ 9223372036854775807) :
    Calls Try.prog 9 #[.slice A n c] w fun e w' => e = .returned (.bool (decide (1048576 < n))) ∧ w = w' := by
  by_cases h : 1048576 < n
  · have h1 : (1048576 : Int) < (n : Int) := by omega
    go_enter Try.func9, Try.ntmps9
    go_wp2_with fail
    go_ret
    exact ⟨retB (by first | (simp; done) | (simp; omega)), rfl⟩
  · have h1 : ¬ (1048576 : Int) < (n : Int) := by omega
    go_enter Try.func9, Try.ntmps9
    go_wp2_with fail
    go_ret
    exact ⟨retB (by first | (simp; done) | (simp; omega)), rfl⟩
end Go.Proofs.Ythdfkiaoahpjpaa
/-
  A drawn prime; FnConverted's walk.
-/
namespace Go.Proofs.Ythdfkiaoahpjpaa
open Go.RowKit
set_option linter.unusedVariables false
set_option linter.unusedSimpArgs false
theorem ints_new (w : World) (t : TypeId) (zs : List Int) : Ints (w.alloc (.cells (zs.map (Value.int .i64)).toArray t)) (some ⟨w.heap.size, 0, none⟩) zs.length zs := by
  refine ⟨by simp, fun _ => ⟨w.heap.size, 0, rfl, by simp, fun j hj => ?_⟩⟩
  rw [cell_of_row _ _ _ _ t (0, 0) (heap_alloc_new w _)]
  simp
end Go.Proofs.Ythdfkiaoahpjpaa
/-
  FnXorField's walk.
-/
namespace Go.Proofs.Ythdfkiaoahpjpaa
open Go.RowKit
set_option linter.unusedVariables false
set_option linter.unusedSimpArgs false
end Go.Proofs.Ythdfkiaoahpjpaa
/-
  FAdd, FSub, FMul, FSum: reference and program, on elements.
-/
namespace Go.Proofs.Ythdfkiaoahpjpaa
open Go.RowKit
set_option linter.unusedVariables false
set_option linter.unusedSimpArgs false
end Go.Proofs.Ythdfkiaoahpjpaa
/-
  Shares of an element: 'append(list, FSub(p, x, FSum(p, list))), next' and who calls it.
-/
namespace Go.Proofs.Ythdfkiaoahpjpaa
open Go.RowKit
set_option linter.unusedVariables false
set_option linter.unusedSimpArgs false
end Go.Proofs.Ythdfkiaoahpjpaa
