/-
  Labels: delta, zero labels of inputs, hashes, labels of values (reference and program).
-/
import Derived.Test.YthdfkiaoahpjpaaMgFnConstantCircuits27
namespace Go.Proofs.Ythdfkiaoahpjpaa
open Go.RowKit
set_option linter.unusedVariables false
set_option linter.unusedSimpArgs false
end Go.Proofs.Ythdfkiaoahpjpaa
/-
  Garbling, in plain numbers: zero labels and tables, gate by gate; all are labels.
-/
namespace Go.Proofs.Ythdfkiaoahpjpaa
open Go.RowKit
set_option linter.unusedVariables false
set_option linter.unusedSimpArgs false
def labI (x : Int) : Prop := 0 ≤ x ∧ x < 65536
theorem labI.of (x : Nat) (h : x < 65536) : labI (x : Int) := ⟨by omega, by omega⟩
end Go.Proofs.Ythdfkiaoahpjpaa
/-
  Labels in lists; pushes on the rows of a struct.
-/
namespace Go.Proofs.Ythdfkiaoahpjpaa
open Go.RowKit
set_option linter.unusedVariables false
set_option linter.unusedSimpArgs false
section
variable {ops : Array Oper} {rest : List Oper} {o : Oper} {a : Act} {Q : Exit → Act → World → Prop}
end
end Go.Proofs.Ythdfkiaoahpjpaa
/-
  A Garbled of the call's own: its cells, pushes on its rows.
-/
namespace Go.Proofs.Ythdfkiaoahpjpaa
open Go.RowKit
set_option linter.unusedVariables false
set_option linter.unusedSimpArgs false
def cgarb (d : Int) (zs ts : List Int) : List CS := [ci d, cints zs, cints ts]
section
variable {T : TypeId} {d : Int} {zs ts : List Int} {g lo n : Nat} {w : World}
theorem sofF.lt (h : sofF lo T (cgarb d zs ts) g w) : g < w.heap.size := by
  obtain ⟨F, h, _⟩ := h
  exact h.ltg
end
section
variable {s n a b x y : Nat} {zs : List Int} {z : Int}
end
end Go.Proofs.Ythdfkiaoahpjpaa
/-
  GarbledOk of a garbling that was made.
-/
namespace Go.Proofs.Ythdfkiaoahpjpaa
open Go.RowKit
set_option linter.unusedVariables false
set_option linter.unusedSimpArgs false
end Go.Proofs.Ythdfkiaoahpjpaa
/-
  A Public of the call's own: three rows of ints in a block.
-/
namespace Go.Proofs.Ythdfkiaoahpjpaa
open Go.RowKit
set_option linter.unusedVariables false
set_option linter.unusedSimpArgs false
section
variable {T : TypeId} {cs : List CS} {zs : List Int} {g lo n i : Nat} {w : World}
end
end Go.Proofs.Ythdfkiaoahpjpaa
/-
  PublicOf of the program.
-/
namespace Go.Proofs.Ythdfkiaoahpjpaa
open Go.RowKit
set_option linter.unusedVariables false
set_option linter.unusedSimpArgs false
section
variable {ops : Array Oper} {rest : List Oper} {o : Oper} {a : Act} {Q : Exit → Act → World → Prop}
theorem wp_pushG (wr : World) (g : Nat) (hgs : wr.heap.size = g) (hgd : o.guard = none) (s x : Operand)
    (ho : o.op = .call { callee := .builtin .append, args := #[s, x], argTypes := #[24, 24] }) (z : Int) (A : Option Addr) (n c : Nat) (xs : List Int) (Fi : List Nat) (hown : (cints xs).own wr Fi (.slice A n c)) (hl : xs.length = n)
    (hs : a.eval s = .slice A n c) (hx : a.eval x = .slice (some ⟨g, 0, none⟩) 1 1) (hn : n ≤ 2000000)
    (h : ∀ A' c' w' F', Hid ((cints (xs ++ [z])).own w' F' (.slice A' (n + 1) c')) → Hid (Chg (fun y => y ∈ Fi) (wr.alloc (.cells #[.int .i64 z] 3)) w') → Hid (∀ y ∈ F', y ∈ Fi ∨ wr.heap.size ≤ y) → wpList Try.prog ops Q rest (a.put o.dst (.slice A' (n + 1) c')) w') :
    wpList Try.prog ops Q (o :: rest) a (wr.alloc (.cells #[.int .i64 z] 3)) := by
  obtain ⟨A2, c2, e2, hF2, hrow⟩ := cints_row hown
  have hr := hrow 0 (fun _ _ => Nat.zero_le _)
  rw [hl] at hr
  refine wp_appendG wr g hgs el_int hgd s x ho #[.int .i64 z] rfl (by simp [Value.oneCell']) 0 _ n (xs.map (Value.int .i64)) hr hs hx (by unfold maxLen; omega) (by omega) (Nat.zero_le _) fun v' w9 o9 g9 k9 => ?_
  obtain ⟨A6, c6, rfl, _⟩ := own_form o9
  refine h A6 c6 w9 _ (Lib.hid (cints_own (n := n + 1) (base := 0) (by rw [List.map_append]; simpa using o9))) (Lib.hid (Chg.of g9 (fun y hy => by rw [hF2]; simpa using hy))) (Lib.hid fun y hy => ?_)
  rcases k9 y (by simpa using hy) with h1 | h1
  · left
    rw [hF2]
    simpa using h1.symm
  · right; omega
end
end Go.Proofs.Ythdfkiaoahpjpaa
/-
  A drawn gate: it is well-formed.
-/
namespace Go.Proofs.Ythdfkiaoahpjpaa
open Go.RowKit
set_option linter.unusedVariables false
set_option linter.unusedSimpArgs false
end Go.Proofs.Ythdfkiaoahpjpaa
/-
  A drawn circuit: it is well-formed.
-/
namespace Go.Proofs.Ythdfkiaoahpjpaa
open Go.RowKit
set_option linter.unusedVariables false
set_option linter.unusedSimpArgs false
section
variable {ops : Array Oper} {rest : List Oper} {o : Oper} {a : Act} {Q : Exit → Act → World → Prop}
theorem wp_pushGt (wr : World) (g : Nat) (hgs : wr.heap.size = g) (hgd : o.guard = none) (s x : Operand)
    (ho : o.op = .call { callee := .builtin .append, args := #[s, x], argTypes := #[26, 26] }) (k y z : Int) (A : Option Addr) (n c : Nat) (xs : List Gat) (Fi : List Nat) (hown : (cgates xs).own wr Fi (.slice A n c)) (hl : xs.length = n)
    (hs : a.eval s = .slice A n c) (hx : a.eval x = .slice (some ⟨g, 0, none⟩) 1 1) (hn : n ≤ 1000000)
    (h : ∀ A' c' w' F', Hid ((cgates (xs ++ [(k, y, z)])).own w' F' (.slice A' (n + 1) c')) → Hid (Chg (fun y => y ∈ Fi) (wr.alloc (.cells #[.int .i64 k, .int .i64 y, .int .i64 z] 41)) w') → Hid (∀ y ∈ F', y ∈ Fi ∨ wr.heap.size ≤ y) → wpList Try.prog ops Q rest (a.put o.dst (.slice A' (n + 1) c')) w') :
    wpList Try.prog ops Q (o :: rest) a (wr.alloc (.cells #[.int .i64 k, .int .i64 y, .int .i64 z] 41)) := by
  obtain ⟨A2, c2, e2, hF2, hrow⟩ := plst_row (s := 3) (fun _ => rfl) (by omega) hown
  have hr := hrow 0 (fun _ _ => Nat.zero_le _)
  rw [hl] at hr
  refine wp_appendG wr g hgs elGate hgd s x ho #[.int .i64 k, .int .i64 y, .int .i64 z] rfl (by simp [Value.oneCell']) 0 _ n (xs.flatMap c3) hr hs hx (by unfold maxLen; omega) (by omega) (Nat.zero_le _) fun v' w9 o9 g9 k9 => ?_
  obtain ⟨A6, c6, rfl, _⟩ := own_form o9
  refine h A6 c6 w9 _ (Lib.hid (plst_own (s := 3) (n := n + 1) (base := 0) (fun _ => rfl) (by omega) c3_one (by rw [List.flatMap_append]; simpa [c3] using o9))) (Lib.hid (Chg.of g9 (fun y hy => by rw [hF2]; simpa using hy))) (Lib.hid fun y hy => ?_)
  rcases k9 y (by simpa using hy) with h1 | h1
  · left
    rw [hF2]
    simpa using h1.symm
  · right; omega
end
section
variable {T : TypeId} {cs : List CS} {zs : List Gat} {g lo n i : Nat} {w : World}
theorem sofF.off {S : Nat → Prop} {w' : World} (h : sofF lo T cs g w) (k : Chg S w w') (hS : ∀ y, S y → y < lo) (hg : lo ≤ g) : sofF lo T cs g w' := by
  obtain ⟨F, h1, h2⟩ := h
  exact ⟨F, h1.chg k (fun y hy hs => by have := hS y hs; have := h2 y hy; omega) (fun hs => by have := hS g hs; omega), h2⟩
theorem sof_plst {α : Type} {e : TypeId} {s : Nat} {f : α → List Value} (hf : ∀ x, (f x).length = s) (hs0 : 0 < s) {xs : List α} (h : sofF lo T cs g w) (hi : cs[i]? = some (plst e s f xs)) (hl : xs.length = n) (hg : lo ≤ g) :
    ∃ A c F1, w.cell? ⟨g, i, none⟩ = some (.slice A n c) ∧ (plst e s f xs).own w F1 (.slice A n c) ∧ ((∀ x ∈ F1, lo ≤ x ∧ x < w.heap.size) ∧ g ∉ F1 ∧ g < w.heap.size) ∧
      (∀ (w1 w' : World) A' n' c' F' (ys : List α), Chg (fun y => y < lo) w w1 → (plst e s f ys).own w' F' (.slice A' n' c') → Chg (fun y => y ∈ F1) w1 w' → (∀ y ∈ F', y ∈ F1 ∨ w1.heap.size ≤ y) →
        w'.cell? ⟨g, i, none⟩ = some (.slice A n c) ∧ w'.frozen? ⟨g, i, none⟩ = false ∧ sofF lo T (cs.set i (plst e s f ys)) g (w'.setCell ⟨g, i, none⟩ (.slice A' n' c'))) := by
  have hsof := h
  obtain ⟨F, h, hF⟩ := h
  have hlo : lo ≤ w.heap.size := by have := h.ltg; omega
  have hlt := h.ltg
  obtain ⟨u, Fi, h1, h2, h3, h4, h5, _, _⟩ := h.at_ (i := i) (c := plst e s f xs) hi
  obtain ⟨A, c, rfl, hFi, _⟩ := plst_row hf hs0 h3
  subst hl
  refine ⟨A, c, Fi, h1, h3, ⟨fun x hx => ⟨hF x (h4 x hx), CS.lt _ h3 x hx⟩, h5, hlt⟩, fun w1 w' A' n' c' F' ys hc1 ho hc hs => ?_⟩
  obtain ⟨F1, k, kF⟩ := hsof.off hc1 (fun y hy => hy) hg
  obtain ⟨u1, Gi, k1, k2, k3, k4, k5, k6, _⟩ := k.at_ (i := i) (c := plst e s f xs) hi
  have hu := hc1.cell h1 hlt (by omega)
  rw [k1] at hu
  injection hu with hu
  subst hu
  obtain ⟨_, _, _, hGi, _⟩ := plst_row hf hs0 k3
  have hGF : Gi = Fi := by rw [hGi, hFi]
  subst hGF
  obtain ⟨F2, m1, m2⟩ := k6 w' (plst e s f ys) _ F' hc ho hs
  refine ⟨hc.cell k1 k.ltg k5, hc.frozen k2 k.ltg k5, ⟨F2, m1, fun y hy => ?_⟩⟩
  rcases m2 y hy with e | e
  · exact kF y e
  · have := hc1.size; omega
end
end Go.Proofs.Ythdfkiaoahpjpaa
