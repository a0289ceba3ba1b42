/-
  Depth and number of multiplications: plain law.
-/
import Derived.Test.YtapljpcpmdlppaaMgFnArithmetics39
import Derived.Test.YtapljpcpmdlppaaMgFnArithmetics14
namespace Go.Proofs.Ytapljpcpmdlppaa
open Go.RowKit
set_option linter.unusedVariables false
set_option linter.unusedSimpArgs false
/-- The depth of step j, in the list of all. -/
theorem depsS_get (m : AM) : ∀ (k j : Nat), j < k → (depsS m k).getD j 0 = depD (depsS m j) (stAt m j)
  | 0, j, h => by omega
  | k + 1, j, h => by
    rw [depsS, List.getD_eq_getElem?_getD]
    by_cases e : j < k
    · rw [List.getElem?_append_left (by rw [depsS_len]; omega), ← List.getD_eq_getElem?_getD]
      exact depsS_get m k j e
    · obtain rfl : j = k := by omega
      rw [List.getElem?_append_right (by rw [depsS_len]; omega), depsS_len]
      simp
theorem depsS_pre (m : AM) {k j i : Nat} (h1 : i < j) (h2 : j ≤ k) : (depsS m j).getD i 0 = (depsS m k).getD i 0 := by
  rw [depsS_get m j i h1, depsS_get m k i (by omega)]
def depAt (m : AM) (j : Nat) : Int := (depsS m m.st.length).getD j 0
theorem maxTo_ge : ∀ (l : List Int) (k j : Nat), j < k → l.getD j 0 ≤ maxTo l k
  | l, 0, j, h => by omega
  | l, k + 1, j, h => by
    rw [maxTo]
    by_cases e : j < k
    · have := maxTo_ge l k j e
      omega
    · obtain rfl : j = k := by omega
      omega
theorem maxTo_is : ∀ (l : List Int) (k : Nat), maxTo l k = 0 ∨ ∃ j, j < k ∧ l.getD j 0 = maxTo l k
  | l, 0 => .inl rfl
  | l, k + 1 => by
    rw [maxTo]
    rcases maxTo_is l k with h | ⟨j, hj, h⟩
    · by_cases e : maxTo l k < l.getD k 0
      · exact .inr ⟨k, by omega, by omega⟩
      · exact .inl (by omega)
    · by_cases e : maxTo l k < l.getD k 0
      · exact .inr ⟨k, by omega, by omega⟩
      · exact .inr ⟨j, by omega, by omega⟩
/-- A depth is either 0, or one more than a smaller step's, and then it is a product's, or a smaller step's. -/
theorem dep_cases {m : AM} (h : AOk m) {j : Nat} (hj : j < m.st.length) : depAt m j = 0 ∨ (∃ i, i < j ∧ depAt m i = depAt m j) ∨ ((stAt m j).1 = 4 ∧ ∃ i, i < j ∧ depAt m j = depAt m i + 1) := by
  unfold depAt
  rw [depsS_get m _ j hj]
  unfold depD
  by_cases h3 : (stAt m j).1 = 3
  · obtain ⟨a, b, ha, hb, hal, hbl⟩ := step_ops h hj (x := (stAt m j).1) (y := (stAt m j).2.1) (z := (stAt m j).2.2) rfl (.inl h3)
    rw [if_pos h3, ha, hb]
    simp only [Int.toNat_natCast]
    rw [depsS_pre m hal (Nat.le_of_lt hj), depsS_pre m hbl (Nat.le_of_lt hj)]
    rcases Int.le_total ((depsS m m.st.length).getD a 0) ((depsS m m.st.length).getD b 0) with e | e
    · exact .inr (.inl ⟨b, hbl, by omega⟩)
    · exact .inr (.inl ⟨a, hal, by omega⟩)
  · by_cases h4 : (stAt m j).1 = 4
    · obtain ⟨a, b, ha, hb, hal, hbl⟩ := step_ops h hj (x := (stAt m j).1) (y := (stAt m j).2.1) (z := (stAt m j).2.2) rfl (.inr h4)
      rw [if_neg h3, if_pos h4, ha, hb]
      simp only [Int.toNat_natCast]
      rw [depsS_pre m hal (Nat.le_of_lt hj), depsS_pre m hbl (Nat.le_of_lt hj)]
      rcases Int.le_total ((depsS m m.st.length).getD a 0) ((depsS m m.st.length).getD b 0) with e | e
      · exact .inr (.inr ⟨h4, b, hbl, by omega⟩)
      · exact .inr (.inr ⟨h4, a, hal, by omega⟩)
    · rw [if_neg h3, if_neg h4]
      exact .inl rfl
theorem has_mul {m : AM} (h : AOk m) : ∀ (k j : Nat), j < k → j < m.st.length → ∀ d : Int, 1 ≤ d → d ≤ depAt m j → ∃ i, i < m.st.length ∧ (stAt m i).1 = 4 ∧ depAt m i = d
  | 0, j, hk, _, _, _, _ => by omega
  | k + 1, j, hk, hj, d, h1, h2 => by
    rcases dep_cases h hj with e | ⟨i, hi, e⟩ | ⟨h4, i, hi, e⟩
    · omega
    · exact has_mul h k i (by omega) (by omega) d h1 (by omega)
    · by_cases hd : d = depAt m j
      · exact ⟨j, hj, h4, hd.symm⟩
      · exact has_mul h k i (by omega) (by omega) d h1 (by omega)
theorem mulsTo_mem {m : AM} {d : Int} : ∀ {k i : Nat}, i < k → (stAt m i).1 = 4 → (mdepth m).getD i 0 = d → 0 < (mulsTo m d k).length
  | 0, i, h, _, _ => by omega
  | k + 1, i, h, h4, hd => by
    rw [mulsTo, List.length_append]
    by_cases e : i < k
    · have := mulsTo_mem e h4 hd
      omega
    · obtain rfl : i = k := by omega
      rw [if_pos ⟨h4, hd⟩]
      simp
theorem depAt_md {m : AM} (h : AOk m) (j : Nat) : (mdepth m).getD j 0 = depAt m j := by rw [mdepth_yes h]; rfl
/-- Each depth has a multiplication. -/
theorem mulsAt_pos {m : AM} (h : AOk m) {d : Int} (h1 : 1 ≤ d) (h2 : d ≤ rounds m) : 0 < (mulsAt m d).length := by
  have hr : ∃ j, j < m.st.length ∧ d ≤ depAt m j := by
    unfold rounds at h2
    rcases maxTo_is (mdepth m) (mdepth m).length with e | ⟨j, hj, e⟩
    · omega
    · exact ⟨j, by rw [← mdepth_len h]; exact hj, by rw [← depAt_md h, e]; exact h2⟩
  obtain ⟨j, hj, hd⟩ := hr
  obtain ⟨i, hi, h4, e⟩ := has_mul h (j + 1) j (by omega) hj d h1 hd
  exact mulsTo_mem (by rw [mdepth_len h]; exact hi) h4 (by rw [depAt_md h, e])
theorem mul_dep {m : AM} (h : AOk m) {j : Nat} (hj : j < m.st.length) (h4 : (stAt m j).1 = 4) : 1 ≤ depAt m j ∧ depAt m j ≤ rounds m := by
  constructor
  · unfold depAt
    rw [depsS_get m _ j hj]
    unfold depD
    have h3 : ¬ (stAt m j).1 = 3 := by omega
    rw [if_neg h3, if_pos h4]
    have := (depsS_bd m j (stAt m j).2.1.toNat).1
    omega
  · unfold rounds
    rw [← depAt_md h]
    exact maxTo_ge _ _ _ (by rw [mdepth_len h]; exact hj)
/-- How many multiplications of the depths 1 .. r there are among the first k steps. -/
noncomputable def totTo (m : AM) (k : Nat) : Nat → Nat
  | 0 => 0
  | r + 1 => totTo m k r + (mulsTo m ((r : Int) + 1) k).length
theorem totTo_zero (m : AM) : ∀ r, totTo m 0 r = 0
  | 0 => rfl
  | r + 1 => by rw [totTo, totTo_zero m r]; rfl
theorem totTo_succ (m : AM) (k : Nat) : ∀ r : Nat, totTo m (k + 1) r = totTo m k r + if (stAt m k).1 = 4 ∧ 1 ≤ (mdepth m).getD k 0 ∧ (mdepth m).getD k 0 ≤ r then 1 else 0
  | 0 => by
    have : ¬ ((stAt m k).1 = 4 ∧ 1 ≤ (mdepth m).getD k 0 ∧ (mdepth m).getD k 0 ≤ ((0 : Nat) : Int)) := by omega
    rw [if_neg this]
    rfl
  | r + 1 => by
    have hl : (if (stAt m k).1 = 4 ∧ (mdepth m).getD k 0 = (r : Int) + 1 then [(k : Int)] else []).length = if (stAt m k).1 = 4 ∧ (mdepth m).getD k 0 = (r : Int) + 1 then 1 else 0 := by split <;> rfl
    rw [totTo, totTo, totTo_succ m k r, mulsTo, List.length_append, hl]
    generalize (mdepth m).getD k 0 = D
    rw [show (((r + 1 : Nat)) : Int) = (r : Int) + 1 from rfl]
    split <;> split <;> split <;> omega
theorem totTo_all {m : AM} (h : AOk m) {r : Nat} (hr : rounds m = r) : ∀ k, k ≤ m.st.length → totTo m k r = muls m.st k
  | 0, _ => by rw [totTo_zero, muls_zero]
  | k + 1, hk => by
    have hlt : k < m.st.length := hk
    have hx : m.st[k]? = some (stAt m k) := by unfold stAt; rw [List.getD_eq_getElem?_getD, List.getElem?_eq_getElem hlt]; rfl
    rw [totTo_succ, totTo_all h hr k (by omega), muls_succ _ _ _ hx]
    congr 1
    by_cases h4 : (stAt m k).1 = 4
    · have := mul_dep h hlt h4
      rw [depAt_md h, if_pos (by omega)]
      simp [h4]
    · rw [if_neg (by omega)]
      simp [h4]
/-- All multiplications together. -/
theorem tot_is {m : AM} (h : AOk m) {r : Nat} (hr : rounds m = r) : totTo m (mdepth m).length r = muls m.st m.st.length := by
  rw [mdepth_len h]
  exact totTo_all h hr _ (Nat.le_refl _)
theorem totTo_next (m : AM) (r : Nat) : totTo m (mdepth m).length (r + 1) = totTo m (mdepth m).length r + (mulsAt m ((r : Int) + 1)).length := rfl
theorem totTo_le (m : AM) {r s : Nat} (h : r ≤ s) : totTo m (mdepth m).length r ≤ totTo m (mdepth m).length s := by
  induction s with
  | zero => have : r = 0 := by omega
            subst this; exact Nat.le_refl _
  | succ s ih =>
    by_cases e : r = s + 1
    · subst e; exact Nat.le_refl _
    · have := ih (by omega)
      rw [totTo_next]
      omega
end Go.Proofs.Ytapljpcpmdlppaa
