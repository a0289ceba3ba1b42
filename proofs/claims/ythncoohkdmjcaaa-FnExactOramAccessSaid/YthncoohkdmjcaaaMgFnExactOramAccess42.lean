/-
  An access: what both sides answer, for all arguments.
-/
import Derived.Test.YthncoohkdmjcaaaMgFnExactOramAccess37
import Derived.Test.YthncoohkdmjcaaaMgFnExactOramAccess41
namespace Go.Proofs.Ythncoohkdmjcaaa
open Go.RowKit
set_option linter.unusedVariables false
set_option linter.unusedSimpArgs false
theorem nodup_lt : ∀ (n : Nat) (l : List Nat), l.Nodup → (∀ x ∈ l, x < n) → l.length ≤ n
  | 0, [], _, _ => Nat.le_refl _
  | 0, x :: l, _, h => by have := h x (List.mem_cons_self ..); omega
  | n + 1, l, hn, h => by
    by_cases hm : n ∈ l
    · have h1 := nodup_lt n (l.erase n) (hn.erase n) (fun x hx => by
        have h2 := (hn.mem_erase_iff).1 hx
        have h3 := h x h2.2
        have h4 : x ≠ n := h2.1
        omega)
      have h2 := List.length_erase_of_mem hm
      omega
    · have h1 := nodup_lt n l hn (fun x hx => by
        have h3 := h x hx
        have h4 : x ≠ n := fun e => hm (e ▸ hx)
        omega)
      omega
theorem OOk.few {m : OM} (h : OOk m) : m.all.length ≤ 12 := by
  have h1 : ((m.all.map (·.1)).map Int.toNat).length ≤ 12 := by
    refine nodup_lt 12 _ ?_ ?_
    · rw [List.Nodup, List.pairwise_map]
      refine List.Pairwise.imp_of_mem ?_ h.nd
      intro a b ha hb hab e
      obtain ⟨x, hx, rfl⟩ := List.mem_map.1 ha
      obtain ⟨y, hy, rfl⟩ := List.mem_map.1 hb
      have := (h.rng x hx).1
      have := (h.rng y hy).1
      omega
    · intro x hx
      obtain ⟨y, hy, rfl⟩ := List.mem_map.1 hx
      obtain ⟨b, hb, rfl⟩ := List.mem_map.1 hy
      have := (h.rng b hb).1
      have := (h.rng b hb).2.1
      omega
  simpa using h1
theorem OOk.szle {m : OM} (h : OOk m) : m.sz ≤ 39 := by
  have h1 := h.few
  have h2 := sumL_flat m.bk
  unfold OM.all at h1
  rw [List.length_append] at h1
  unfold OM.sz szB
  rw [h2, h.nb, h.np]
  omega
theorem accB_is {m : OM} {id value leaf : Int} (h : accB m id value leaf = true) : OOk m ∧ (0 ≤ id ∧ id ≤ 11) ∧ (0 ≤ value ∧ value ≤ 4294967295) ∧ (0 ≤ leaf ∧ leaf ≤ 7) := by
  unfold accB at h
  simp only [Bool.and_eq_true] at h
  obtain ⟨⟨⟨ho, hi⟩, hv⟩, hl⟩ := h
  unfold inR at hi hl
  unfold wordB at hv
  simp only [Bool.and_eq_true, decide_eq_true_eq] at hi hl hv
  exact ⟨oramB_is ho, hi, hv, hl⟩
noncomputable def accR (m : OM) (id : Int) (write : Bool) (value leaf : Int) : OM := if accB m id value leaf then acc m id write value leaf else m
theorem accR_sz {m : OM} {id value leaf : Int} {write : Bool} (h : m.sz ≤ 1048576) : (accR m id write value leaf).sz ≤ 1048576 := by
  unfold accR
  cases hb : accB m id value leaf with
  | false => simpa using h
  | true =>
    obtain ⟨ho, hi, hv, hl⟩ := accB_is hb
    have := (acc_ok (write := write) ho hi.1 hi.2 hv.1 hv.2 hl.1 hl.2).szle
    simp only [if_true]
    omega
theorem specOramAccess_c (m : OM) (v : Value) (id value leaf : Int) (write : Bool) (w : World) (h : AggR w (coram m) v) (hz : m.sz ≤ 1048576) :
    Calls Try.prog 39 #[v, .int .i64 id, .bool write, .int .i64 value, .int .i64 leaf] w (AccJ m id write value leaf w) := by
  cases hb : accB m id value leaf with
  | false => exact specOramAccess_no m v id value leaf write w h hz hb
  | true => exact specOramAccess_yes m v id value leaf write w h hz hb
theorem specOramAccess_x (m : OM) (v : Value) (id value leaf : Int) (write : Bool) (w : World) (h : AggR w (coram m) v) (hz : m.sz ≤ 1048576) :
    Calls Try.prog 39 #[v, .int .i64 id, .bool write, .int .i64 value, .int .i64 leaf] w fun e w' => ∃ V F, e = .returned (.tuple #[V, .int .i64 (if accB m id value leaf then accV m id else 0), .int .i64 (if accB m id value leaf then m.leaf id else 0), .bool (accB m id value leaf)]) ∧ AggO w' (coram (accR m id write value leaf)) F V ∧ (∀ g ∈ F, w.heap.size ≤ g) ∧ w.grownBy w' none := by
  refine (specOramAccess_c m v id value leaf write w h hz).mono ?_
  rintro e w' ⟨V, F, rfl, h1, h2, h3⟩
  exact ⟨V, F, rfl, h1, h2, h3⟩
theorem implOramAccess_c (m : OM) (v : Value) (id value leaf : Int) (write : Bool) (w : World) (h : AggR w (coram m) v) (hz : m.sz ≤ 1048576) :
    Calls Try.prog 38 #[v, .int .i64 id, .bool write, .int .i64 value, .int .i64 leaf] w (AccJ m id write value leaf w) := by
  cases hb : accB m id value leaf with
  | false => exact implOramAccess_no m v id value leaf write w h hz hb
  | true => exact implOramAccess_yes m v id value leaf write w h hz hb
theorem implOramAccess_x (m : OM) (v : Value) (id value leaf : Int) (write : Bool) (w : World) (h : AggR w (coram m) v) (hz : m.sz ≤ 1048576) :
    Calls Try.prog 38 #[v, .int .i64 id, .bool write, .int .i64 value, .int .i64 leaf] w fun e w' => ∃ V F, e = .returned (.tuple #[V, .int .i64 (if accB m id value leaf then accV m id else 0), .int .i64 (if accB m id value leaf then m.leaf id else 0), .bool (accB m id value leaf)]) ∧ AggO w' (coram (accR m id write value leaf)) F V ∧ (∀ g ∈ F, w.heap.size ≤ g) ∧ w.grownBy w' none := by
  refine (implOramAccess_c m v id value leaf write w h hz).mono ?_
  rintro e w' ⟨V, F, rfl, h1, h2, h3⟩
  exact ⟨V, F, rfl, h1, h2, h3⟩
end Go.Proofs.Ythncoohkdmjcaaa
