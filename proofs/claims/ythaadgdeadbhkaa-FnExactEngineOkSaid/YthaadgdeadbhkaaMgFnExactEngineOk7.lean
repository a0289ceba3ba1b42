/-
  Slices of structs of numbers: their cells lie one struct behind the other.
-/
import Derived.Test.YthaadgdeadbhkaaMgFnExactEngineOk4
import Derived.Test.YthaadgdeadbhkaaMgFnExactEngineOk2
namespace Go.Proofs.Ythaadgdeadbhkaa
open Go.RowKit
set_option linter.unusedVariables false
set_option linter.unusedSimpArgs false
section
variable {α β : Type} {F : α → List β} {sz : Nat}
theorem flat_len (hF : ∀ x, (F x).length = sz) (xs : List α) : (xs.flatMap F).length = xs.length * sz := by
  induction xs with
  | nil => simp
  | cons x xs ih => rw [List.flatMap_cons, List.length_append, hF, ih, List.length_cons, Nat.succ_mul]; omega
theorem flat_get (hF : ∀ x, (F x).length = sz) : ∀ (xs : List α) (i j : Nat), j < sz → (xs.flatMap F)[i * sz + j]? = xs[i]?.bind fun x => (F x)[j]?
  | [], i, j, _ => by simp
  | x :: xs, 0, j, hj => by
    rw [List.flatMap_cons, List.getElem?_append_left (by rw [hF]; omega)]; simp
  | x :: xs, i + 1, j, hj => by
    rw [List.flatMap_cons, List.getElem?_append_right (by rw [hF, Nat.succ_mul]; omega), hF, show (i + 1) * sz + j - sz = i * sz + j by rw [Nat.succ_mul]; omega, flat_get hF xs i j hj]
    simp
theorem flat_get' (hF : ∀ x, (F x).length = sz) (hs : 0 < sz) (xs : List α) (m : Nat) : (xs.flatMap F)[m]? = xs[m / sz]?.bind fun x => (F x)[m % sz]? := by
  have := flat_get hF xs (m / sz) (m % sz) (Nat.mod_lt _ hs)
  rwa [show m / sz * sz + m % sz = m by rw [Nat.mul_comm]; exact Nat.div_add_mod m sz] at this
theorem flat_ext (hF : ∀ x, (F x).length = sz) {xs : List α} {l : List β} (hl : l.length = xs.length * sz) (h : ∀ i j x, xs[i]? = some x → j < sz → l[i * sz + j]? = (F x)[j]?) : l = xs.flatMap F := by
  apply List.ext_getElem?
  intro m
  rcases Nat.eq_zero_or_pos sz with h0 | hs
  · subst h0
    have h1 : l = [] := List.eq_nil_of_length_eq_zero (by simpa using hl)
    have h2 : xs.flatMap F = [] := List.eq_nil_of_length_eq_zero (by rw [flat_len hF]; simp)
    rw [h1, h2]
  · rw [flat_get' hF hs]
    have e : m / sz * sz + m % sz = m := by rw [Nat.mul_comm]; exact Nat.div_add_mod m sz
    cases hx : xs[m / sz]? with
    | some x => rw [Option.bind_some, ← h _ _ x hx (Nat.mod_lt _ hs), e]
    | none =>
      rw [Option.bind_none, List.getElem?_eq_none]
      rw [hl]
      have h1 : xs.length ≤ m / sz := by simpa using hx
      have := Nat.mul_le_mul_right sz h1
      have := Nat.div_mul_le_self m sz
      omega
theorem mul_add_lt {i n j sz : Nat} (hi : i < n) (hj : j < sz) : i * sz + j < n * sz := by
  have : (i + 1) * sz ≤ n * sz := Nat.mul_le_mul_right sz hi
  rw [Nat.succ_mul] at this; omega
theorem flat_set3 {F : α → List β} (hF : ∀ x, (F x).length = 3) (ys : List α) (k : Nat) (hk : k < ys.length) (x : α) (a b c : β) (hx : F x = [a, b, c]) : (((ys.flatMap F).set (k * 3) a).set (k * 3 + 1) b).set (k * 3 + 2) c = (ys.set k x).flatMap F := by
  refine flat_ext hF (by simp [flat_len hF]) fun i j y hy hj => ?_
  have hl := flat_len hF ys
  have hin : i < ys.length := by have := (List.getElem?_eq_some_iff.1 hy).1; simpa using this
  simp only [List.getElem?_set, List.length_set] at *
  rw [flat_get hF ys i j hj, hl]
  by_cases e : k = i
  · subst e
    rw [if_pos rfl, if_pos hk] at hy
    injection hy with hy
    subst hy
    rw [hx]
    rcases (show j = 0 ∨ j = 1 ∨ j = 2 by omega) with rfl | rfl | rfl
    · rw [if_neg (by omega), if_neg (by omega), if_pos (by omega), if_pos (by omega)]; rfl
    · rw [if_neg (by omega), if_pos rfl, if_pos (by omega)]; rfl
    · rw [if_pos rfl, if_pos (by omega)]; rfl
  · rw [if_neg e] at hy
    rw [if_neg (by omega), if_neg (by omega), if_neg (by omega), hy]; rfl
theorem fillD_step (d : α) (xs : List α) (k : Nat) (h : k < xs.length) : (xs.take k ++ List.replicate (xs.length - k) d).set k xs[k] = xs.take (k + 1) ++ List.replicate (xs.length - (k + 1)) d := by
  rw [List.set_append_right _ _ (by simp; omega)]
  rw [List.length_take, Nat.min_eq_left (by omega), Nat.sub_self, show xs.length - k = (xs.length - (k + 1)) + 1 by omega, List.replicate_succ, List.set_cons_zero, List.take_succ_eq_append_getElem h, List.append_assoc]
  rfl
end
structure FL {α : Type} (F : α → List Value) (sz : Nat) (w : World) (A : Option Addr) (n : Nat) (xs : List α) : Prop where
  len : xs.length = n
  rd : Rd w sz A n (xs.flatMap F)
section
variable {α : Type} {F : α → List Value} {sz : Nat} {w w' : World} {A : Option Addr} {n : Nat} {xs : List α}
theorem FL.grown {r : Option Nat} (h : FL F sz w A n xs) (hg : w.grownBy w' r) (hr : Off A r) : FL F sz w' A n xs := ⟨h.len, h.rd.grown hg hr⟩
theorem FL.grow (h : FL F sz w A n xs) (hg : w.grownBy w' none) : FL F sz w' A n xs := ⟨h.len, h.rd.grow hg⟩
theorem FL.cell (hF : ∀ x, (F x).length = sz) (h : FL F sz w A n xs) {k : Nat} (hk : k < n) (hs : 0 < sz) :
    ∃ (b o : Nat) (x : α), A = some ⟨b, o, none⟩ ∧ b < w.heap.size ∧ xs[k]? = some x ∧ ∀ j, j < sz → w.cell? ⟨b, o + (k * sz + j), none⟩ = (F x)[j]? := by
  obtain ⟨b, o, rfl, hb, hc⟩ := h.rd.2 (by omega)
  have hl := h.len
  refine ⟨b, o, xs[k], rfl, hb, List.getElem?_eq_getElem (by omega), fun j hj => ?_⟩
  rw [hc _ (mul_add_lt hk hj), flat_get hF xs k j hj, List.getElem?_eq_getElem (by omega)]
  rfl
theorem FL.ofOwn {base c : Nat} {e : TypeId} (hl : xs.length = n) (h : w.ownsRow base e sz (.slice A n c) n (xs.flatMap F)) : FL F sz w A n xs := ⟨hl, Rd.ofOwn h⟩
theorem FL.nil (w : World) (A : Option Addr) : FL F sz w A 0 [] := ⟨rfl, by simp [Rd]⟩
end
theorem made_flat {α : Type} {F : α → List Value} {sz : Nat} (hF : ∀ x, (F x).length = sz) (hs : 0 < sz) (d : α) (z : Array Value) (hz : z.toList = F d) (n : Nat) : (madeCells z (n * sz)).toList = (List.replicate n d).flatMap F := by
  have hzs : z.size = sz := by rw [← Array.length_toList, hz, hF]
  refine flat_ext hF (by simp [size_madeCells]) fun i j x hx hj => ?_
  have hi : i < n ∧ x = d := by
    rw [List.getElem?_replicate] at hx
    split at hx
    · injection hx with hx; exact ⟨by assumption, hx.symm⟩
    · cases hx
  obtain ⟨hi, rfl⟩ := hi
  have hlt := mul_add_lt hi hj
  have hm : (i * sz + j) % sz = j := by rw [Nat.mul_comm, Nat.mul_add_mod, Nat.mod_eq_of_lt hj]
  have hzj : j < z.size := by omega
  rw [← hz]
  simp [madeCells, hlt, hzs, hm]
  rw [getElem!_pos z j hzj, Array.getElem?_eq_getElem hzj]
def c2 (t : Int × Int) : List Value := [.int .i64 t.1, .int .i64 t.2]
def c3 (t : Int × Int × Int) : List Value := [.int .i64 t.1, .int .i64 t.2.1, .int .i64 t.2.2]
theorem c3_len (t : Int × Int × Int) : (c3 t).length = 3 := rfl
def i64w (n : Int) : Prop := -9223372036854775808 ≤ n ∧ n ≤ 9223372036854775807
def w2 (x : Int × Int) : Prop := i64w x.1 ∧ i64w x.2
def w3 (x : Int × Int × Int) : Prop := i64w x.1 ∧ i64w x.2.1 ∧ i64w x.2.2
end Go.Proofs.Ythaadgdeadbhkaa
