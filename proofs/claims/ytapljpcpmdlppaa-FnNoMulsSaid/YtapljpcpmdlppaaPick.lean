/-
  A draw out of a list.
-/
import Derived.Test.YtapljpcpmdlppaaDraw
namespace Go.Proofs.Ytapljpcpmdlppaa
open Go.RowKit
set_option linter.unusedVariables false
/-- What l01PickInt hands back: one of the list. -/
def PickOut (w : World) (l : List Int) (g : Nat) (A : Option Addr) (n c : Nat) (bs : List Int) (e : Ending) (w' : World) : Prop :=
  ∃ x : Int, e = .returned (.int .i64 x) ∧ x ∈ l ∧ Cur w' g A n c bs ∧ w.grownBy w' (some g)
set_option maxHeartbeats 400000 in
theorem l01PickInt_c (w : World) (B : Option Addr) (m d : Nat) (l : List Int) (hl : Ints w B m l) (hm : 1 ≤ m) (hm2 : m ≤ 1099511627776) (g : Nat) (hB : Off B (some g)) (A : Option Addr) (n c : Nat) (bs : List Int) (hc : Cur w g A n c bs) :
    Calls Try.prog 154 #[.pointer (some ⟨g, 0, none⟩), .slice B m d] w (PickOut w l g A n c bs) := by
  have HC := Lib.hid hc
  have HL := Lib.hid hl
  have LL := Lib.hid hl.len
  clear hc hl
  go_enter Try.func154, Try.ntmps154
  go_wp2_with fail
  refine (l01Below_c _ m (by omega) g A n c bs HC.out).mono ?_
  rintro e w1 ⟨x, rfl, hx0, hx1, hc1, hg1⟩
  have H1 := Lib.hid hc1
  clear hc1
  obtain ⟨k, rfl⟩ := Int.eq_ofNat_of_zero_le hx0
  have hk : k < m := by have := hx1 (by omega); omega
  have i1 : (k : Int) < (m : Int) := by omega
  obtain ⟨b, o, rfl, hb, c1⟩ := (HL.out.grown hg1 hB).cell hk
  have hkl : k < l.length := by have := LL.out; omega
  rw [getI l k hkl] at c1
  clear hx1
  go_wp2_with fail
  go_ret
  exact ⟨_, rfl, List.getElem_mem hkl, H1.out, hg1⟩
end Go.Proofs.Ytapljpcpmdlppaa
