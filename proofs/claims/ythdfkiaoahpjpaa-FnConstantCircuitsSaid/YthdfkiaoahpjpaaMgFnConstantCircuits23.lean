/-
  CountGates, GarbledCost: reference and program.
-/
import Derived.Test.YthdfkiaoahpjpaaMgFnConstantCircuits22
namespace Go.Proofs.Ythdfkiaoahpjpaa
open Go.RowKit
set_option linter.unusedVariables false
set_option linter.unusedSimpArgs false
end Go.Proofs.Ythdfkiaoahpjpaa
/-
  The circuits for words, in plain lists: what the program's builders append, what wires carry.
-/
namespace Go.Proofs.Ythdfkiaoahpjpaa
open Go.RowKit
set_option linter.unusedVariables false
set_option linter.unusedSimpArgs false
def sumTo (m : CM) (x y : List Int) (cy : Int) (fr : Nat) : Nat → List Int × Int × CM
  | 0 => (x.take fr, m.gt.length, m.put 2 cy 0)
  | k + 1 => ((sumTo m x y cy fr k).1 ++ [((sumTo m x y cy fr k).2.2.gt.length : Int) + 2], ((sumTo m x y cy fr k).2.2.gt.length : Int) + 4, adderM (sumTo m x y cy fr k).2.2 (x.getD (fr + k) 0) (y.getD (fr + k) 0) (sumTo m x y cy fr k).2.1)
theorem sumTo_len (m : CM) (x y : List Int) (cy : Int) (fr : Nat) (hf : fr ≤ x.length) : ∀ k, (sumTo m x y cy fr k).1.length = fr + k ∧ (sumTo m x y cy fr k).2.2.gt.length = m.gt.length + 1 + 5 * k
  | 0 => ⟨by simp [sumTo]; omega, by simp only [sumTo, put_len]⟩
  | k + 1 => by
    obtain ⟨h1, h2⟩ := sumTo_len m x y cy fr hf k
    exact ⟨by simp [sumTo, h1]; omega, by simp only [sumTo, adder_len, h2]; omega⟩
def constTo (m : CM) (n : Nat) : Nat → List Int × CM
  | 0 => ([], m)
  | k + 1 => ((constTo m n k).1 ++ [((constTo m n k).2.gt.length : Int)], (constTo m n k).2.put 2 ((n / 2 ^ k % 2 : Nat) : Int) 0)
theorem constTo_len (m : CM) (n : Nat) : ∀ k, (constTo m n k).1.length = k ∧ (constTo m n k).2.gt.length = m.gt.length + k
  | 0 => ⟨rfl, rfl⟩
  | k + 1 => by
    obtain ⟨h1, h2⟩ := constTo_len m n k
    exact ⟨by simp [constTo, h1], by simp only [constTo, put_len, h2]; omega⟩
def mulA (m : CM) (x y : List Int) : Nat → List Int × CM
  | 0 => ([], m)
  | k + 1 => ((mulA m x y k).1 ++ [((mulA m x y k).2.gt.length : Int)], (mulA m x y k).2.put 4 (y.getD 0 0) (x.getD k 0))
theorem mulA_len (m : CM) (x y : List Int) : ∀ k, (mulA m x y k).1.length = k ∧ (mulA m x y k).2.gt.length = m.gt.length + k
  | 0 => ⟨rfl, rfl⟩
  | k + 1 => by
    obtain ⟨h1, h2⟩ := mulA_len m x y k
    exact ⟨by simp [mulA, h1], by simp only [mulA, put_len, h2]; omega⟩
def bx (a b : Int) : Int := ((a.toNat ^^^ b.toNat : Nat) : Int)
def ba (a b : Int) : Int := ((a.toNat &&& b.toNat : Nat) : Int)
def gv (bits out : List Int) (g : Gat) : Int :=
  if g.1 = 1 then bits.getD g.2.1.toNat 0 else if g.1 = 2 then g.2.1 else if g.1 = 3 then bx (out.getD g.2.1.toNat 0) (out.getD g.2.2.toNat 0)
  else if g.1 = 4 then ba (out.getD g.2.1.toNat 0) (out.getD g.2.2.toNat 0) else if g.1 = 5 then 1 - out.getD g.2.1.toNat 0 else 0
def wiresTo (bits : List Int) (gs : List Gat) : Nat → List Int
  | 0 => []
  | k + 1 => wiresTo bits gs k ++ [gv bits (wiresTo bits gs k) (gs.getD k (0, 0, 0))]
def bitI (x : Int) : Prop := 0 ≤ x ∧ x ≤ 1
theorem bx_bit {a b : Int} (ha : bitI a) (hb : bitI b) : bitI (bx a b) := by
  obtain ⟨a1, a2⟩ := ha
  obtain ⟨b1, b2⟩ := hb
  unfold bitI
  rcases (by omega : a = 0 ∨ a = 1) with rfl | rfl <;> rcases (by omega : b = 0 ∨ b = 1) with rfl | rfl <;> decide
theorem ba_bit {a b : Int} (ha : bitI a) (hb : bitI b) : bitI (ba a b) := by
  obtain ⟨a1, a2⟩ := ha
  obtain ⟨b1, b2⟩ := hb
  unfold bitI
  rcases (by omega : a = 0 ∨ a = 1) with rfl | rfl <;> rcases (by omega : b = 0 ∨ b = 1) with rfl | rfl <;> decide
theorem getD_bit {l : List Int} (h : ∀ x ∈ l, bitI x) (k : Nat) : bitI (l.getD k 0) := by
  by_cases hk : k < l.length
  · rw [getI l k hk]
    exact h _ (List.getElem_mem hk)
  · simp [List.getD_eq_getElem?_getD, List.getElem?_eq_none (show l.length ≤ k by omega), bitI]
theorem gv_bit {bits out : List Int} {g : Gat} {k : Int} (hb : ∀ x ∈ bits, bitI x) (ho : ∀ x ∈ out, bitI x) (hg : gateB k g = true) : bitI (gv bits out g) := by
  unfold gv
  split
  · exact getD_bit hb _
  split
  · rename_i h1 h2
    unfold gateB at hg
    simp [h2, inB] at hg
    exact ⟨hg.1.1, hg.1.2⟩
  split
  · exact bx_bit (getD_bit ho _) (getD_bit ho _)
  split
  · exact ba_bit (getD_bit ho _) (getD_bit ho _)
  split
  · have := getD_bit ho g.2.1.toNat
    exact ⟨by have := this.2; omega, by have := this.1; omega⟩
  · exact ⟨by omega, by omega⟩
theorem wiresTo_len (bits : List Int) (gs : List Gat) : ∀ k, (wiresTo bits gs k).length = k
  | 0 => rfl
  | k + 1 => by simp [wiresTo, wiresTo_len bits gs k]
theorem wires_bit {bits : List Int} {m : CM} (hb : ∀ x ∈ bits, bitI x) (hm : COk m) : ∀ k, k ≤ m.gt.length → ∀ x ∈ wiresTo bits m.gt k, bitI x
  | 0, _ => fun x hx => by simp [wiresTo] at hx
  | k + 1, hk => fun x hx => by
    simp only [wiresTo, List.mem_append, List.mem_singleton] at hx
    rcases hx with hx | rfl
    · exact wires_bit hb hm k (by omega) x hx
    · exact gv_bit hb (wires_bit hb hm k (by omega)) (hm.gates k (by omega))
def outsTo (m : CM) (bits : List Int) (k : Nat) : List Int := (m.outs.take k).map fun z => (wiresTo bits m.gt m.gt.length).getD z.toNat 0
def stepN (acc i : Nat) (g : Gat) : Nat :=
  if g.1 = 2 then acc + g.2.1.toNat * 2 ^ i else if g.1 = 3 then acc + ((acc >>> g.2.1.toNat) ^^^ (acc >>> g.2.2.toNat)) % 2 * 2 ^ i
  else if g.1 = 4 then acc + ((acc >>> g.2.1.toNat) &&& (acc >>> g.2.2.toNat)) % 2 * 2 ^ i else if g.1 = 5 then acc + (1 - (acc >>> g.2.1.toNat) % 2) * 2 ^ i else acc
def runN : List Gat → Nat → Nat → Nat
  | [], _, acc => acc
  | g :: gs, i, acc => runN gs (i + 1) (stepN acc i g)
end Go.Proofs.Ythdfkiaoahpjpaa
