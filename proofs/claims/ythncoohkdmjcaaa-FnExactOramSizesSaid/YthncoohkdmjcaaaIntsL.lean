/-
  The laws' helpers on slices of numbers that are a little longer than the greatest size (printed from XTabK).
-/
import Derived.Test.YthncoohkdmjcaaaTabK
namespace Go.Proofs.Ythncoohkdmjcaaa
open Go.RowKit
set_option linter.unusedVariables false
theorem eqIntS_l (xs : List (Int)) (v u : Value) (w : World) (h : (cints xs).rd w v) (k : (cints xs).rd w u) (hn : xs.length ≤ 2097152) :
    Calls Try.prog 18 #[v, u] w fun e w' => e = .returned (.bool true) ∧ w.grownBy w' none := by
  obtain ⟨A, c, rfl, hc, hm, hI⟩ := plst_rd (s := 1) (fun _ => rfl) (by omega) h
  obtain ⟨B, d, rfl, hd, _, hJ⟩ := plst_rd (s := 1) (fun _ => rfl) (by omega) k
  refine (eqIntS_c A B _ _ c d xs xs w (by have := hI.rd; rw [flat_fiC] at this; exact this) (by have := hJ.rd; rw [flat_fiC] at this; exact this) (by omega) (by omega)).mono ?_
  rintro e w' ⟨rfl, q, rfl⟩
  exact ⟨by rw [beq_self_eq_true], gbDN (gbR _ _) _⟩
theorem markIntS_l (xs : List (Int)) (v : Value) (F : List Nat) (k0 : Int) (w : World) (h : (cints xs).own w F v) (hn : xs.length ≤ 2097152) (h0 : 0 ≤ k0) (h1 : k0 ≤ 549755813888) :
    Calls Try.prog 19 #[v, .int .i64 k0] w fun e w' => e = .returned (.int .i64 (k0 + xs.length)) ∧ (cints (marks k0 xs.length)).own w' F v ∧ Chg (fun g => g ∈ F) w w' := by
  obtain ⟨A, c, rfl, hF, hr⟩ := plst_row (s := 1) (fun _ => rfl) (by omega) h
  refine (markIntS_c 0 A _ c xs k0 w (by have := hr 0 (fun _ _ => Nat.zero_le _); rw [flat_fiC] at this; exact this) (by omega) h0 (by omega)).mono ?_
  rintro e w' ⟨rfl, ho, hg⟩
  subst hF
  exact ⟨rfl, (by rw [← flat_fiC] at ho; exact plst_own (s := 1) (fun _ => rfl) (by omega) fiC_one ho), Chg.of hg fun g hg' => by rw [← ownB A xs.length c] at hg'; rw [hg']; simp⟩
theorem heldIntS_l (n : Nat) (v : Value) (k0 : Int) (w : World) (h : (cints (marks k0 n)).rd w v) (hn : n ≤ 2097152) (h0 : 0 ≤ k0) (h1 : k0 ≤ 549755813888) :
    Calls Try.prog 20 #[v, .int .i64 k0] w fun e w' => e = .returned (.int .i64 (k0 + n)) ∧ w.grownBy w' none := by
  obtain ⟨A, c, rfl, hc, hm, hI⟩ := plst_rd (s := 1) (fun _ => rfl) (by omega) h
  have hl : (marks k0 n).length = n := by simp [marks]
  rw [hl] at hI ⊢
  refine (heldIntS_c A n c k0 w (by have := hI.rd; rw [flat_fiC] at this; exact this) (by omega) h0 (by omega)).mono ?_
  rintro e w' ⟨rfl, rfl⟩
  exact ⟨rfl, gbR _ _⟩
end Go.Proofs.Ythncoohkdmjcaaa
