/-
  The program's builder: what it asks of words (isWordOf, areNibbles, areBits), where it holds.
-/
import Derived.Test.YthdfkiaoahpjpaaMgFnConstantCircuits25
namespace Go.Proofs.Ythdfkiaoahpjpaa
open Go.RowKit
set_option linter.unusedVariables false
set_option linter.unusedSimpArgs false
end Go.Proofs.Ythdfkiaoahpjpaa
/-
  EvalWires, EvalCircuit of the program.
-/
namespace Go.Proofs.Ythdfkiaoahpjpaa
open Go.RowKit
set_option linter.unusedVariables false
set_option linter.unusedSimpArgs false
theorem gateB_kind {k : Nat} {x y z : Int} (h : gateB k (x, y, z) = true) : (x = 1 ∧ ∃ a : Nat, y = a ∧ a < 80) ∨ (x = 2 ∧ bitI y) ∨ (x = 3 ∧ ∃ a b : Nat, y = a ∧ z = b ∧ a < k ∧ b < k) ∨ (x = 4 ∧ ∃ a b : Nat, y = a ∧ z = b ∧ a < k ∧ b < k) ∨ (x = 5 ∧ ∃ a : Nat, y = a ∧ a < k) := by
  unfold gateB inB at h
  by_cases h1 : x = 1
  · simp [h1] at h
    exact .inl ⟨h1, y.toNat, by omega, by omega⟩
  by_cases h2 : x = 2
  · simp [h2] at h
    exact .inr (.inl ⟨h2, ⟨h.1.1, h.1.2⟩⟩)
  by_cases h3 : x = 3
  · simp [h3] at h
    exact .inr (.inr (.inl ⟨h3, y.toNat, z.toNat, by omega, by omega, by omega, by omega⟩))
  by_cases h4 : x = 4
  · simp [h4] at h
    exact .inr (.inr (.inr (.inl ⟨h4, y.toNat, z.toNat, by omega, by omega, by omega, by omega⟩)))
  by_cases h5 : x = 5
  · simp [h5] at h
    exact .inr (.inr (.inr (.inr ⟨h5, y.toNat, by omega, by omega⟩)))
  · simp [h1, h2, h3, h4, h5] at h
theorem inB_bit {z : Int} (h : inB z 0 1 = true) : bitI z := by
  unfold inB at h
  simp at h
  exact ⟨h.1, h.2⟩
end Go.Proofs.Ythdfkiaoahpjpaa
/-
  RoundsOf, MulsAt, ArithCost, UsedErrors: reference and program.
-/
namespace Go.Proofs.Ythdfkiaoahpjpaa
open Go.RowKit
set_option linter.unusedVariables false
set_option linter.unusedSimpArgs false
end Go.Proofs.Ythdfkiaoahpjpaa
/-
  ArithCost, UsedErrors: reference and program.
-/
namespace Go.Proofs.Ythdfkiaoahpjpaa
open Go.RowKit
set_option linter.unusedVariables false
set_option linter.unusedSimpArgs false
theorem Ints.take {w : World} {A : Option Addr} {n : Nat} {zs : List Int} (h : Ints w A n zs) {k : Nat} (hk : k ≤ n) : Ints w A k (zs.take k) := by
  have hl := h.len
  refine ⟨by simp; omega, fun hp => ?_⟩
  obtain ⟨b, o, e, hb, hc⟩ := h.at_ (by omega)
  refine ⟨b, o, e, hb, fun j hj => ?_⟩
  rw [hc j (by omega), List.getElem?_map, List.getElem?_take, if_pos (by omega), List.getElem?_eq_getElem (by omega), getI _ _ (by omega)]
  rfl
end Go.Proofs.Ythdfkiaoahpjpaa
/-
  The program's builder: sums of words.
-/
namespace Go.Proofs.Ythdfkiaoahpjpaa
open Go.RowKit
set_option linter.unusedVariables false
set_option linter.unusedSimpArgs false
theorem ownF.row {lo : Nat} {w : World} {xs : List Int} {v : Value} (h : ownF lo (cints xs) v w) : ∃ A c, v = .slice A xs.length c ∧ ownF lo (cints xs) (.slice A xs.length c) w := by
  obtain ⟨F, h1, h2⟩ := h
  obtain ⟨A, c, e, _, _⟩ := cints_row h1
  subst e
  exact ⟨A, c, rfl, F, h1, h2⟩
end Go.Proofs.Ythdfkiaoahpjpaa
/-
  EvalCircuit of the program.
-/
namespace Go.Proofs.Ythdfkiaoahpjpaa
open Go.RowKit
set_option linter.unusedVariables false
set_option linter.unusedSimpArgs false
end Go.Proofs.Ythdfkiaoahpjpaa
/-
  The program's circuits for words: the call's head and end; sums and differences.
-/
namespace Go.Proofs.Ythdfkiaoahpjpaa
open Go.RowKit
set_option linter.unusedVariables false
set_option linter.unusedSimpArgs false
theorem BS.made {T : TypeId} {lo : Nat} {m : CM} {u0 u1 : Value} {w : World} (h : aggF lo (ccircuit m) (.agg #[u0, u1]) w) (hlo : lo ≤ w.heap.size) : BS T lo (w.heap.size + 1) m w.heap.size (w.alloc (.cells #[u0, u1] T)) := by
  obtain ⟨F, hF, hl⟩ := h
  obtain ⟨v0, v1, F0, F1, e, rfl, o0, o1, _⟩ := ccircuit_oopen hF
  injection e with e
  injection e with e
  injection e with e0 e
  injection e with e1 _
  subst e0; subst e1
  have gA := gbA (gbR w none) (.cells #[u0, u1] T)
  exact ⟨hlo, by omega, u0, u1, F0, F1, Blk.new w _ _, own_growK _ o0 gA, own_growK _ o1 gA, fun x hx => hl x (by simp [hx]), fun x hx => ⟨hl x (by simp [hx]), by have := CS.lt _ o1 x hx; omega⟩⟩
structure WAsk (m : CM) : Prop where
  ok : COk m
  few : m.gt.length ≤ 5900
  outs : m.outs.length ≤ 1000000
def wordB (m : CM) (r : List Int) : Prop := r.length = 4 ∧ ∀ z ∈ r, inB z 0 (m.gt.length - 1) = true
end Go.Proofs.Ythdfkiaoahpjpaa
/-
  A circuit's block in a law's walk: what a store leaves.
-/
namespace Go.Proofs.Ythdfkiaoahpjpaa
open Go.RowKit
set_option linter.unusedVariables false
set_option linter.unusedSimpArgs false
def m0 : CM := ⟨[], []⟩
theorem circ0 (w : World) : AggR w (ccircuit m0) (.agg #[.slice none 0 0, .slice none 0 0]) := by
  refine ccircuit_mk ?_ ?_
  · exact CS.toRd _ (plst_own (s := 3) (fun _ => rfl) (by omega) c3_one (n := 0) (xs := []) (World.ownsRow_nil w 0 _ 3))
  · exact CS.toRd _ (cints_own (World.ownsRow_nil w 0 _ 1))
theorem circ_put {w : World} {g lo : Nat} {a0 a1 s0 s1 : Value} {m : CM} (R : Blk w g 28 #[a0, a1]) (h : aggF lo (ccircuit m) (.agg #[s0, s1]) w) :
    Blk (setCells w g 0 [s0, s1]) g 28 #[s0, s1] ∧ aggF lo (ccircuit m) (.agg #[s0, s1]) (setCells w g 0 [s0, s1]) ∧ (∀ l2 xs v, ownF l2 (cints xs) v w → ownF l2 (cints xs) v (setCells w g 0 [s0, s1])) ∧ ∀ wb : World, wb.grownBy w none → wb.heap.size ≤ g → wb.grownBy (setCells w g 0 [s0, s1]) none := by
  have hC := chg_setCells g [s0, s1] 0 w
  obtain ⟨F, hF, hl⟩ := h
  have ht : ∀ c ∈ ccircuit m, tyd [41, 3] c := fun c hc => by
    simp at hc
    rcases hc with rfl | rfl
    · exact tyd_plst (by simp)
    · exact tyd_plst (by simp)
  refine ⟨blk_setCells R [s0, s1] rfl, ⟨F, hF.chg hC fun x hx e => ?_, hl⟩, fun l2 xs v ⟨F2, h1, h2⟩ => ⟨F2, own_chgK _ h1 hC fun y hy e => ?_, h2⟩, fun wb hb hg => gb_chg hb hC hg⟩
  · rw [e] at hx
    exact agg_ty ht hF R (by decide) hx
  · rw [e] at hy
    exact own_ty (Ts := [3]) (tyd_plst (by simp)) h1 R (by decide) hy
theorem own4 {l n c : Nat} {w : World} {A : Option Addr} {xs : List Int} (h : ownF l (cints xs) (.slice A n c) w) : Ints w A n xs ∧ n ≤ c ∧ c ≤ maxLen := by
  obtain ⟨F, h1, _⟩ := h
  obtain ⟨h2, h3, h4, h5⟩ := cints_rd' ((cints xs).toRd h1)
  exact ⟨h5, h3, h4⟩
theorem aggF.r {lo : Nat} {cs : List CS} {v : Value} {w : World} (h : aggF lo cs v w) : AggR w cs v := by
  obtain ⟨F, h1, _⟩ := h
  exact h1.rd
theorem aggF.form {lo : Nat} {m : CM} {v : Value} {w : World} (h : aggF lo (ccircuit m) v w) : ∃ (A0 : Option Addr) (n0 s0 : Nat) (A1 : Option Addr) (n1 s1 : Nat), v = .agg #[(.slice A0 n0 s0), (.slice A1 n1 s1)] := by
  obtain ⟨F, h1, _⟩ := h
  exact ccircuit_oform h1
def zrF (n : Nat) (v : Value) (w : World) : Prop := ∃ g, v = .slice (some ⟨g, 0, none⟩) n n ∧ Ints w (some ⟨g, 0, none⟩) n (List.replicate n 0)
theorem zrF_st {n : Nat} : stable (zrF n) := fun v w w' ⟨g, h1, h2⟩ hg => ⟨g, h1, h2.grow hg⟩
def evF (lo n : Nat) (xs : List Int) (v : Value) (w : World) : Prop := ∃ A c, v = .tuple #[.slice A n c, .bool true] ∧ ownF lo (cints xs) (.slice A n c) w
theorem evF_st {lo n : Nat} {xs : List Int} : stable (evF lo n xs) := fun v w w' ⟨A, c, h1, h2⟩ hg => ⟨A, c, h1, h2.grow hg⟩
def slF (lo n : Nat) (xs : List Int) (v : Value) (w : World) : Prop := ∃ A c, v = .slice A n c ∧ ownF lo (cints xs) (.slice A n c) w
theorem slF_st {lo n : Nat} {xs : List Int} : stable (slF lo n xs) := fun v w w' ⟨A, c, h1, h2⟩ hg => ⟨A, c, h1, h2.grow hg⟩
theorem zero_in (z : Int) (h : z ∈ List.replicate 80 (0 : Int)) : inB z 0 1 = true := by
  rw [(List.mem_replicate.1 h).2]
  decide
theorem zero_bit (z : Int) (h : z ∈ List.replicate 80 (0 : Int)) : bitI z := inB_bit (zero_in z h)
theorem gb0 {W w : World} (hG : Chg (fun b => ∃ s, (s, b) ∈ ([] : List (Nat × Nat))) W w) : W.grownBy w none := ⟨hG.os, hG.tape, hG.output, hG.size, fun i hi _ => hG.block i hi (by rintro ⟨s, hs⟩; cases hs)⟩
end Go.Proofs.Ythdfkiaoahpjpaa
