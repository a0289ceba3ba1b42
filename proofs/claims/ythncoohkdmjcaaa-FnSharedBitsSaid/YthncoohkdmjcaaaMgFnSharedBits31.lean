/-
  Shares of bits give shares of their number: the plain law.
-/
import Derived.Test.YthncoohkdmjcaaaMgFnSharedBits30
import Derived.Test.YthncoohkdmjcaaaMgFnSharedBits28
namespace Go.Proofs.Ythncoohkdmjcaaa
open Go.RowKit
set_option linter.unusedVariables false
set_option linter.unusedSimpArgs false
theorem sum_mod (p : Int) {α : Type} (f : α → Int) : ∀ l : List α, (l.map fun c => f c % p).sum % p = (l.map f).sum % p
  | [] => rfl
  | c :: l => by
    rw [List.map_cons, List.map_cons, List.sum_cons, List.sum_cons, Int.emod_add_emod, Int.add_emod, sum_mod p f l, ← Int.add_emod]
theorem sum_lin {α : Type} (A B : α → Int) (w : Int) : ∀ l : List α, (l.map fun c => A c + B c * w).sum = (l.map A).sum + (l.map B).sum * w
  | [] => by simp
  | c :: l => by
    rw [List.map_cons, List.map_cons, List.map_cons, List.sum_cons, List.sum_cons, List.sum_cons, sum_lin A B w l, Int.add_mul]
    omega
theorem dot_two (p : Int) (zs ys : List Int) : ∀ k, (dotTo p zs k).2 = (dotTo p ys k).2
  | 0 => rfl
  | k + 1 => by simp only [dotTo]; rw [dot_two p zs ys k]
/-- The columns' dot products add up to the dot product of the rows' sums. -/
theorem dot_cols (p : Int) (bs : List Int) (cs : List (List Int)) : ∀ k, (∀ i, i < k → (cs.map fun c => c.getD i 0).sum % p = bs.getD i 0 % p) → ((cs.map fun c => (dotTo p c k).1).sum) % p = (dotTo p bs k).1 % p
  | 0, _ => by
    have h0 : ∀ l : List (List Int), (l.map fun c => (dotTo p c 0).1).sum = 0 := fun l => by
      induction l with
      | nil => rfl
      | cons c l ih => rw [List.map_cons, List.sum_cons, ih]; rfl
    rw [h0]
    rfl
  | k + 1, h => by
    have ih := dot_cols p bs cs k (fun i hi => h i (by omega))
    have e1 : (cs.map fun c => (dotTo p c (k + 1)).1) = cs.map fun c => ((dotTo p c k).1 + c.getD k 0 * (dotTo p bs k).2) % p := by
      refine List.map_congr_left fun c _ => ?_
      simp only [dotTo]
      rw [dot_two p c bs k]
    rw [e1, sum_mod, sum_lin]
    simp only [dotTo]
    rw [Int.emod_emod, Int.add_emod, ih, Int.mul_emod, h k (by omega), ← Int.mul_emod, ← Int.add_emod]
/-- The rows of shares of the first i bits. -/
def rowsS (P s a n : Nat) (bs : List Int) (i : Nat) : List (List Int) := (List.range i).map fun k => shareL P (bs.getD k 0) (tapeL s (a + k * (n - 1)) P (n - 1))
theorem rowsS_len (P s a n : Nat) (bs : List Int) (i : Nat) : (rowsS P s a n bs i).length = i := by simp [rowsS]
theorem rowsS_succ (P s a n : Nat) (bs : List Int) (i : Nat) : rowsS P s a n bs (i + 1) = rowsS P s a n bs i ++ [shareL P (bs.getD i 0) (tapeL s (a + i * (n - 1)) P (n - 1))] := by
  unfold rowsS; rw [List.range_succ, List.map_append]; rfl
theorem rowsS_at {P s a n : Nat} {bs : List Int} {i k : Nat} (h : k < i) : (rowsS P s a n bs i).getD k [] = shareL P (bs.getD k 0) (tapeL s (a + k * (n - 1)) P (n - 1)) := by
  unfold rowsS
  rw [List.getD_eq_getElem?_getD, List.getElem?_map, List.getElem?_range h]
  rfl
def colS (rows : List (List Int)) (j : Nat) : List Int := rows.map fun r => r.getD j 0
theorem range_sum (l : List Int) : ∀ n, n = l.length → ((List.range n).map fun j => l.getD j 0).sum = l.sum := by
  intro n hn
  congr 1
  apply List.ext_getElem?
  intro j
  rw [List.getElem?_map]
  by_cases h : j < n
  · rw [List.getElem?_range h, List.getElem?_eq_getElem (by omega)]
    simp [List.getD_eq_getElem?_getD, List.getElem?_eq_getElem (show j < l.length by omega)]
  · rw [List.getElem?_eq_none (by simpa using h), List.getElem?_eq_none (by omega)]
    rfl
/-- What the law sums up. -/
def sumsS (P s a n : Nat) (bs : List Int) (m k : Nat) : List Int := (List.range k).map fun j => (dotTo P (colS (rowsS P s a n bs m) j) m).1
theorem sumsS_succ (P s a n : Nat) (bs : List Int) (m k : Nat) : sumsS P s a n bs m (k + 1) = sumsS P s a n bs m k ++ [(dotTo P (colS (rowsS P s a n bs m) k) m).1] := by
  unfold sumsS; rw [List.range_succ, List.map_append]; rfl
theorem sumsS_len (P s a n : Nat) (bs : List Int) (m k : Nat) : (sumsS P s a n bs m k).length = k := by simp [sumsS]
theorem shared_bits {P s a n x : Nat} (hP : P ∈ ([2, 3, 5, 7, 11, 13, 31, 97, 101] : List Nat)) (hx : x < P) (hn : 1 ≤ n) : fsum (P : Int) (sumsS P s a n (bitList x (fb P)) (fb P) n) = x := by
  have hb := back_all P hP x hx
  unfold backB at hb
  simp only [Bool.and_eq_true, decide_eq_true_eq] at hb
  have hd := hb.1.1.2
  have hp2 : 2 ≤ P := by
    simp at hP
    omega
  unfold fsum sumsS
  have hmap : ((List.range n).map fun j => (dotTo P (colS (rowsS P s a n (bitList x (fb P)) (fb P)) j) (fb P)).1) = (((List.range n).map fun j => colS (rowsS P s a n (bitList x (fb P)) (fb P)) j)).map fun c => (dotTo P c (fb P)).1 := by rw [List.map_map]; rfl
  rw [hmap, dot_cols (P : Int) (bitList x (fb P)) _ (fb P) (fun i hi => ?_), hd]
  · exact Int.emod_eq_of_lt (by omega) (by omega)
  · rw [List.map_map]
    have e : (fun c : List Int => c.getD i 0) ∘ (fun j => colS (rowsS P s a n (bitList x (fb P)) (fb P)) j) = fun j => ((rowsS P s a n (bitList x (fb P)) (fb P)).getD i []).getD j 0 := by
      funext j
      simp only [Function.comp]
      unfold colS
      have hi' : i < (rowsS P s a n (bitList x (fb P)) (fb P)).length := by rw [rowsS_len]; exact hi
      simp [List.getD_eq_getElem?_getD, List.getElem?_map, List.getElem?_eq_getElem hi']
    rw [e, rowsS_at hi, range_sum _ n (by rw [shareL_len, tapeL_len]; omega)]
    have hbit : 0 ≤ (bitList x (fb P)).getD i 0 ∧ (bitList x (fb P)).getD i 0 ≤ 1 := by
      have hl : i < (bitList x (fb P)).length := by rw [bitList_length]; exact hi
      rw [getI _ i hl]
      exact bitList_bits x (fb P) _ (List.getElem_mem hl)
    have := shareL_sum (p := (P : Int)) (x := (bitList x (fb P)).getD i 0) (L := tapeL s (a + i * (n - 1)) P (n - 1)) hbit.1 (by omega)
    unfold fsum at this
    rw [this]
    exact (Int.emod_eq_of_lt hbit.1 (by omega)).symm
end Go.Proofs.Ythncoohkdmjcaaa
