/-
  FnExactTicketsDisjoint's walk.
-/
import Derived.Test.YtllokfcappfkiaaTicketsS
import Derived.Test.YtllokfcappfkiaaTkH
import Derived.Test.YtllokfcappfkiaaOpenS
namespace Go.Proofs.Ytllokfcappfkiaa
open Go.RowKit
set_option linter.unusedVariables false
theorem FnExactTicketsDisjoint.walk (w : World) (A : Option Addr) (n c : Nat) (xs : List (Int × Int)) (hx : FL c2 2 w A n xs) (hw : ∀ x ∈ xs, w2 x) (hm : c ≤ maxLen) (hc : n ≤ c) :
    Calls Try.prog 18 #[.slice A n c] w fun e w' => e = .returned (.bool true) ∧ w.grownBy w' none := by
  unfold maxLen at hm
  clear hw
  by_cases hbig : 1048576 < n
  · go_enter Try.func18, Try.ntmps18
    go_wp2_with fail
    refine (szTicketS_no A n c 1048576 _ (by omega) (by omega) hbig).mono ?_
    rintro e w1 ⟨rfl, rfl⟩
    go_wp2_with fail
    go_ret
    exact ⟨rfl, gbR _ _⟩
  · have hpos : ¬ (((1048576 - n : Nat) : Int) < 0) := by omega
    go_enter Try.func18, Try.ntmps18
    go_wp2_with fail
    refine (szTicketS_yes A n c 1048576 _ (by omega) (by omega) (by omega)).mono ?_
    rintro e w1 ⟨rfl, rfl⟩
    go_wp2_with fail
    refine (toTicketS_c A n c xs _ hx (by omega)).mono ?_
    rintro e w1 ⟨g1, rfl, o1, h1⟩
    go_wp2_with fail
    refine (specTicketsDisjoint_c _ n n xs _ (FL.ofOwn hx.len o1) (by omega)).mono ?_
    rintro e w2 ⟨rfl, h2⟩
    have G2 := Lib.hid (gbT h1 h2)
    clear h1 h2 o1
    go_wp2_with fail
    refine (toTicketS_c A n c xs _ (hx.grow G2.out) (by omega)).mono ?_
    rintro e w3 ⟨g3, rfl, o3, h3⟩
    have O3 := Lib.hid o3
    have G3 := Lib.hid (gbT G2.out h3)
    clear o3 h3
    go_wp2_with fail
    refine (implTicketsDisjoint_c _ n n xs _ (FL.ofOwn hx.len O3.out) (by omega) (Nat.le_refl _) (by omega)).mono ?_
    rintro e w4 ⟨rfl, h4⟩
    have O4 := Lib.hid (own_grow O3.out h4)
    have G4 := Lib.hid (gbT G3.out h4)
    clear h4
    go_wp2_with fail
    refine (toTicketS_c A n c xs _ (hx.grow G4.out) (by omega)).mono ?_
    rintro e w5 ⟨g5, rfl, o5, h5⟩
    have O5 := Lib.hid o5
    have O45 := Lib.hid (own_grow O4.out h5)
    have G5 := Lib.hid (gbT G4.out h5)
    clear o5 h5
    go_wp2_with fail
    refine (eqTicketS_c _ _ n n n xs _ (FL.ofOwn hx.len O45.out) (FL.ofOwn hx.len O5.out) (by omega)).mono ?_
    rintro e w6 ⟨rfl, h6⟩
    have G6 := Lib.hid (gbT G5.out h6)
    clear h6
    go_wp2_with fail
    go_ret
    exact ⟨rfl, G6.out⟩
end Go.Proofs.Ytllokfcappfkiaa
