/-
  A circuit's block in a law's walk: what a store leaves.
-/
import Derived.Test.YthdfkiaoahpjpaaMgFnArithmetic39
import Derived.Test.YthdfkiaoahpjpaaMgFnArithmetic38
namespace Go.Proofs.Ythdfkiaoahpjpaa
open Go.RowKit
set_option linter.unusedVariables false
set_option linter.unusedSimpArgs false
def m0 : CM := ⟨[], []⟩
theorem circ0 (w : World) : AggR w (ccircuit m0) (.agg #[.slice none 0 0, .slice none 0 0]) := by
  refine ccircuit_mk ?_ ?_
  · exact CS.toRd _ (plst_own (s := 3) (fun _ => rfl) (by omega) c3_one (n := 0) (xs := []) (World.ownsRow_nil w 0 _ 3))
  · exact CS.toRd _ (cints_own (World.ownsRow_nil w 0 _ 1))
theorem circ_put {w : World} {g lo : Nat} {a0 a1 s0 s1 : Value} {m : CM} (R : Blk w g 28 #[a0, a1]) (h : aggF lo (ccircuit m) (.agg #[s0, s1]) w) :
    Blk (setCells w g 0 [s0, s1]) g 28 #[s0, s1] ∧ aggF lo (ccircuit m) (.agg #[s0, s1]) (setCells w g 0 [s0, s1]) ∧ (∀ l2 xs v, ownF l2 (cints xs) v w → ownF l2 (cints xs) v (setCells w g 0 [s0, s1])) ∧ ∀ wb : World, wb.grownBy w none → wb.heap.size ≤ g → wb.grownBy (setCells w g 0 [s0, s1]) none := by
  have hC := chg_setCells g [s0, s1] 0 w
  obtain ⟨F, hF, hl⟩ := h
  have ht : ∀ c ∈ ccircuit m, tyd [41, 3] c := fun c hc => by
    simp at hc
    rcases hc with rfl | rfl
    · exact tyd_plst (by simp)
    · exact tyd_plst (by simp)
  refine ⟨blk_setCells R [s0, s1] rfl, ⟨F, hF.chg hC fun x hx e => ?_, hl⟩, fun l2 xs v ⟨F2, h1, h2⟩ => ⟨F2, own_chgK _ h1 hC fun y hy e => ?_, h2⟩, fun wb hb hg => gb_chg hb hC hg⟩
  · rw [e] at hx
    exact agg_ty ht hF R (by decide) hx
  · rw [e] at hy
    exact own_ty (Ts := [3]) (tyd_plst (by simp)) h1 R (by decide) hy
theorem own4 {l n c : Nat} {w : World} {A : Option Addr} {xs : List Int} (h : ownF l (cints xs) (.slice A n c) w) : Ints w A n xs ∧ n ≤ c ∧ c ≤ maxLen := by
  obtain ⟨F, h1, _⟩ := h
  obtain ⟨h2, h3, h4, h5⟩ := cints_rd' ((cints xs).toRd h1)
  exact ⟨h5, h3, h4⟩
theorem aggF.r {lo : Nat} {cs : List CS} {v : Value} {w : World} (h : aggF lo cs v w) : AggR w cs v := by
  obtain ⟨F, h1, _⟩ := h
  exact h1.rd
theorem aggF.form {lo : Nat} {m : CM} {v : Value} {w : World} (h : aggF lo (ccircuit m) v w) : ∃ (A0 : Option Addr) (n0 s0 : Nat) (A1 : Option Addr) (n1 s1 : Nat), v = .agg #[(.slice A0 n0 s0), (.slice A1 n1 s1)] := by
  obtain ⟨F, h1, _⟩ := h
  exact ccircuit_oform h1
theorem zero_in (z : Int) (h : z ∈ List.replicate 80 (0 : Int)) : inB z 0 1 = true := by
  rw [(List.mem_replicate.1 h).2]
  decide
theorem zero_bit (z : Int) (h : z ∈ List.replicate 80 (0 : Int)) : bitI z := inB_bit (zero_in z h)
end Go.Proofs.Ythdfkiaoahpjpaa
