/-
  errorAt of the program; facts of regions that only grow.
-/
import Derived.Test.YthaadgdeadbhkaaMgFnRounds33
namespace Go.Proofs.Ythaadgdeadbhkaa
open Go.RowKit
set_option linter.unusedVariables false
set_option linter.unusedSimpArgs false
theorem sT_nil : stables [] := fun R hR => by simp at hR
theorem sT_cons {R : Value → World → Prop} {T : List (Value → World → Prop)} (h : stable R) (k : stables T) : stables (R :: T) := fun Q hQ => by
  rcases List.mem_cons.1 hQ with rfl | hQ
  · exact h
  · exact k Q hQ
theorem implerrorAt_c (A : Option Addr) (n c : Nat) (es : List Int) (i : Nat) (w : World) (h : Ints w A n es) (hi : i ≤ 1048576) :
    Calls Try.prog 68 #[.slice A n c, .int .i64 i] w fun e w' => e = .returned (.int .i64 (errAt es i)) ∧ w = w' := by
  have HL := Lib.hid h.len
  by_cases hlt : i < n
  · obtain ⟨b, o, rfl, hb, hc⟩ := h.at_ (by omega)
    have c0 := hc i hlt
    have HE : Hid (errAt es i = es.getD i 0) := rfl
    have i1 : (i : Int) < (n : Int) := by omega
    clear hc h
    go_enter Try.func68, Try.ntmps68
    go_wp2_with fail
    go_ret
    exact ⟨retI HE.out.symm, rfl⟩
  · have HE : Hid (errAt es i = 0) := by
      unfold Hid errAt
      rw [List.getD_eq_getElem?_getD, List.getElem?_eq_none (by rw [HL.out]; omega)]
      rfl
    have i1 : ¬ (i : Int) < (n : Int) := by omega
    clear h
    go_enter Try.func68, Try.ntmps68
    go_wp2_with fail
    go_ret
    exact ⟨retI HE.out.symm, rfl⟩
theorem errAt_el {p : Int} {es : List Int} (h : elemsB p es = true) (i : Nat) : elemB p (errAt es i) = true := by
  obtain ⟨hf, p2, _, h1⟩ := elemsB_is h
  unfold errAt
  rw [List.getD_eq_getElem?_getD]
  cases hi : es[i]? with
  | none => exact elemB_mk hf (by simp) (by simp; omega)
  | some z => exact elemB_mk hf (h1 z (List.mem_of_getElem? hi)).1 (h1 z (List.mem_of_getElem? hi)).2
end Go.Proofs.Ythaadgdeadbhkaa
