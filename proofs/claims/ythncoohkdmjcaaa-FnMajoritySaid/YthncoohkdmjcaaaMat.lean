/-
  Lists of lists of numbers: the laws' helpers toIntSS, eqIntSS, markIntSS, szIntSS.
-/
import Derived.Test.YthncoohkdmjcaaaSame
import Derived.StillTailTactics
namespace Go.Proofs.Ythncoohkdmjcaaa
open Go.RowKit
set_option linter.unusedVariables false
set_option linter.unusedSimpArgs false
abbrev Mat (w : World) (A : Option Addr) (n : Nat) (rows : List (List Int)) : Prop := RdC w 1 A n (rows.map ir)
theorem mat_len {w : World} {A : Option Addr} {n : Nat} {rows : List (List Int)} (h : Mat w A n rows) : rows.length = n := by simpa using RdC.len h
theorem mat_at {w : World} {A : Option Addr} {n : Nat} {rows : List (List Int)} (h : Mat w A n rows) {k : Nat} (hk : k < n) :
    ∃ b o B c, A = some ⟨b, o, none⟩ ∧ b < w.heap.size ∧ w.cell? ⟨b, o + k, none⟩ = some (.slice B (rows.getD k []).length c) ∧ Ints w B (rows.getD k []).length (rows.getD k []) ∧ (rows.getD k []).length ≤ c ∧ c ≤ maxLen := by
  obtain ⟨b, o, v, cd, rfl, hb, hcd, hc, hr⟩ := RdC.at_ h (i := k) (by omega)
  rw [List.getElem?_map] at hcd
  cases hrow : rows[k]? with
  | none => rw [hrow] at hcd; cases hcd
  | some r =>
    rw [hrow] at hcd
    injection hcd with hcd
    subst hcd
    obtain ⟨B, c, rfl, h1, h2, h3⟩ := ir_rd hr
    have e : rows.getD k [] = r := by rw [List.getD_eq_getElem?_getD, hrow]; rfl
    rw [e]
    exact ⟨b, o, B, c, rfl, hb, hc, h3, h1, h2⟩
def tot (rows : List (List Int)) (k : Nat) : Nat := ((rows.take k).map List.length).sum
theorem tot_zero (rows : List (List Int)) : tot rows 0 = 0 := by simp [tot]
theorem tot_succ (rows : List (List Int)) (k : Nat) (h : k < rows.length) : tot rows (k + 1) = tot rows k + (rows.getD k []).length := by
  unfold tot
  rw [List.take_succ_eq_append_getElem h, List.map_append, List.sum_append]
  simp [List.getD_eq_getElem?_getD, List.getElem?_eq_getElem h]
theorem tot_mono (rows : List (List Int)) {j k : Nat} (h : j ≤ k) : tot rows j ≤ tot rows k := by
  induction k with
  | zero => have : j = 0 := by omega
            subst this; exact Nat.le_refl _
  | succ k ih =>
    by_cases e : j = k + 1
    · subst e; exact Nat.le_refl _
    · have h1 := ih (by omega)
      by_cases hk : k < rows.length
      · rw [tot_succ rows k hk]; omega
      · have : tot rows (k + 1) = tot rows k := by unfold tot; rw [List.take_of_length_le (by omega), List.take_of_length_le (by omega)]
        omega
/-- What a size's helper hands back. -/
def szOut (l m : Nat) : Int := if m ≤ l then ((l - m : Nat) : Int) else -1
theorem szOut_yes {l m : Nat} (h : m ≤ l) : szOut l m = ((l - m : Nat) : Int) := if_pos h
theorem szOut_no {l m : Nat} (h : l < m) : szOut l m = -1 := if_neg (by omega)
theorem szIntS_yes (A : Option Addr) (n c l : Nat) (w : World) (hl : l ≤ 1048576) (h : n ≤ l) :
    Calls Try.prog 58 #[.slice A n c, .int .i64 l] w fun e w' => e = .returned (.int .i64 ((l - n : Nat) : Int)) ∧ w = w' := by
  go_enter Try.func58, Try.ntmps58
  have h' : ¬ ((l : Int) - (n : Int) < 0) := by omega
  go_wp2_with fail
  go_ret
  exact ⟨retI (by omega), rfl⟩
theorem szIntS_no (A : Option Addr) (n c l : Nat) (w : World) (hn : n ≤ 9223372036854775807) (hl : l ≤ 1048576) (h : l < n) :
    Calls Try.prog 58 #[.slice A n c, .int .i64 l] w fun e w' => e = .returned (.int .i64 (-1)) ∧ w = w' := by
  go_enter Try.func58, Try.ntmps58
  have h' : (l : Int) - (n : Int) < 0 := by omega
  go_wp2_with fail
  go_ret
  exact ⟨rfl, rfl⟩
theorem el_ints : El Try.prog 67 22 (.slice none 0 0) 1 24 := ⟨Try.underlying67, by kernel_rfl, rfl, by decide⟩
theorem rep_at {α : Type} (d : α) (n i : Nat) (x : α) (h : (List.replicate n d)[i]? = some x) : x = d := by
  rw [List.getElem?_replicate] at h
  split at h
  · injection h with h; exact h.symm
  · cases h
theorem own_made_rows {w : World} {lo n c : Nat} {v : Value} (h : w.ownsRow lo 22 1 v n (List.replicate n (.slice none 0 0))) : OwnC w lo 22 1 v n ((List.replicate n ([] : List Int)).map ir) (List.replicate n (.slice none 0 0)) :=
  ⟨by simp, h, fun i cd u hc hu => by
    rw [List.map_replicate] at hc
    rw [rep_at _ _ _ _ hc, rep_at _ _ _ _ hu]
    exact World.ownsRow_nil _ _ _ _, fun i j a b _ ha hb => by rw [rep_at _ _ _ _ ha]; intro g hg; simp [Value.ownBlock] at hg, fun u hu => by rw [List.eq_of_mem_replicate hu]; intro g _ hg; simp [Value.ownBlock] at hg⟩
end Go.Proofs.Ythncoohkdmjcaaa
