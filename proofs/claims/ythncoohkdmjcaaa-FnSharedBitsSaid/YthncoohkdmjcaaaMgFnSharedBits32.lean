/-
  l29Same, same, ints: comparing and copying lists of numbers.
-/
import Derived.Test.YthncoohkdmjcaaaMgFnSharedBits8
import Derived.StillTailTactics
namespace Go.Proofs.Ythncoohkdmjcaaa
open Go.RowKit
set_option linter.unusedVariables false
set_option linter.unusedSimpArgs false
set_option maxHeartbeats 400000 in
theorem same_c (A B : Option Addr) (n m c d : Nat) (xs ys : List Int) (w : World) (hx : Ints w A n xs) (hy : Ints w B m ys) (hn : n ≤ 4611686018427387903) (hm : m ≤ 4611686018427387903) :
    Calls Try.prog 82 #[.slice A n c, .slice B m d] w fun e w' => e = .returned (.bool (xs == ys)) ∧ ∃ q, w' = w.drewN q := by
  have lx := hx.len
  have ly := hy.len
  by_cases hnm : n = m
  · subst hnm
    have hd : ((n : Int) != (n : Int)) = false := by simp
    have LX := Lib.hid lx
    have LY := Lib.hid ly
    clear lx ly
    go_enter Try.func82, Try.ntmps82
    go_wp2_with fail
    go_loopw [13] (fun i w1 => ∃ k q : Nat, k ≤ n ∧ i = .int .i64 k ∧ w1 = w.drewN q ∧ Hid (xs.take k = ys.take k)) (fun i _ => n - (intOf i).toNat)
    case atStart => exact ⟨0, 0, Nat.zero_le _, rfl, rfl, by simp [Hid]⟩
    case round =>
      obtain ⟨k, q, hk, rfl, rfl, heq⟩ := hrel
      by_cases hlt : k < n
      · obtain ⟨b, o, rfl, hb, hc⟩ := hx.at_ (by omega)
        obtain ⟨b', o', rfl, hb', hc'⟩ := hy.at_ (by omega)
        have c1 := hc k hlt
        have c2 := hc' k hlt
        clear hc hc'
        have i1 : (k : Int) < (n : Int) := by omega
        go_wp2_with fail
        go_quiet (fail)
        go_wp2_with fail
        · have hne : (xs[k]?.getD 0 != ys[k]?.getD 0) = true := by assumption
          go_ret
          have h1 := LX.out; have h2 := LY.out
          have := ne_of_at xs ys 0 k (by simpa using hne)
          exact ⟨by simp [this], _, dN ..⟩
        · have hne : (xs[k]?.getD 0 != ys[k]?.getD 0) = false := by assumption
          go_roundw
          case rel =>
            have h1 := LX.out; have h2 := LY.out
            exact ⟨k + 1, _, by omega, by go_num, rfl, take_eq_succ xs ys 0 k (by omega) (by omega) heq.out (by simpa using hne)⟩
          case measure => simp [intOf]; omega
      · have hkn : k = n := by omega
        subst hkn
        go_wp2_with fail
        go_ret
        have h1 := LX.out; have h2 := LY.out
        exact ⟨by simp [eq_of_take xs ys k h1 h2 heq.out], _, rfl⟩
  · have hd : ((n : Int) != (m : Int)) = true := by simp; omega
    go_enter Try.func82, Try.ntmps82
    go_wp2_with fail
    go_ret
    have : ¬ xs = ys := by rintro rfl; omega
    exact ⟨by simp [this], 0, rfl⟩

theorem ints_one (zs : List Int) : ∀ u ∈ zs.map (Value.int .i64), u.oneCell' = true := by
  intro u hu
  obtain ⟨z, _, rfl⟩ := List.mem_map.1 hu
  rfl
theorem ints_c (A : Option Addr) (n c : Nat) (zs : List Int) (w : World) (hx : Ints w A n zs) (hn : n ≤ 1099511627776) :
    Calls Try.prog 66 #[.slice A n c] w fun e w' => ∃ v, e = .returned v ∧ w'.ownsRow w.heap.size 3 1 v n (zs.map (Value.int .i64)) ∧ w.grownBy w' none := by
  have hr := World.ownsRow_made (e := 3) (size := 1) w #[] 0 (Nat.le_refl _) (by simp) rfl
  go_enter Try.func66, Try.ntmps66
  go_wp2_with (at_builtin; refine wp_appendS _ el_int rfl (.tmp 3) (.tmp 4) rfl w.heap.size _ 0 [] hr rfl A n c _ rfl (hx.grow (gbA (gbR w none) _)) (ints_one zs) (by unfold maxLen; omega) (by omega) (by simp) ?_; intro v' w1 hown1 hgrow)
  go_ret
  exact ⟨v', rfl, by simpa using hown1, gbN (gbA (gbR w none) _) hgrow fun g e => Nat.le_of_eq (show w.heap.size = g by simpa [Value.ownBlock] using e)⟩
end Go.Proofs.Ythncoohkdmjcaaa
/-
  Lists of lists of numbers: the laws' helpers toIntSS, eqIntSS, markIntSS, szIntSS.
-/
namespace Go.Proofs.Ythncoohkdmjcaaa
open Go.RowKit
set_option linter.unusedVariables false
set_option linter.unusedSimpArgs false
abbrev Mat (w : World) (A : Option Addr) (n : Nat) (rows : List (List Int)) : Prop := RdC w 1 A n (rows.map ir)
theorem mat_len {w : World} {A : Option Addr} {n : Nat} {rows : List (List Int)} (h : Mat w A n rows) : rows.length = n := by simpa using RdC.len h
theorem mat_at {w : World} {A : Option Addr} {n : Nat} {rows : List (List Int)} (h : Mat w A n rows) {k : Nat} (hk : k < n) :
    ∃ b o B c, A = some ⟨b, o, none⟩ ∧ b < w.heap.size ∧ w.cell? ⟨b, o + k, none⟩ = some (.slice B (rows.getD k []).length c) ∧ Ints w B (rows.getD k []).length (rows.getD k []) ∧ (rows.getD k []).length ≤ c ∧ c ≤ maxLen := by
  obtain ⟨b, o, v, cd, rfl, hb, hcd, hc, hr⟩ := RdC.at_ h (i := k) (by omega)
  rw [List.getElem?_map] at hcd
  cases hrow : rows[k]? with
  | none => rw [hrow] at hcd; cases hcd
  | some r =>
    rw [hrow] at hcd
    injection hcd with hcd
    subst hcd
    obtain ⟨B, c, rfl, h1, h2, h3⟩ := ir_rd hr
    have e : rows.getD k [] = r := by rw [List.getD_eq_getElem?_getD, hrow]; rfl
    rw [e]
    exact ⟨b, o, B, c, rfl, hb, hc, h3, h1, h2⟩
def tot (rows : List (List Int)) (k : Nat) : Nat := ((rows.take k).map List.length).sum
theorem tot_zero (rows : List (List Int)) : tot rows 0 = 0 := by simp [tot]
theorem tot_succ (rows : List (List Int)) (k : Nat) (h : k < rows.length) : tot rows (k + 1) = tot rows k + (rows.getD k []).length := by
  unfold tot
  rw [List.take_succ_eq_append_getElem h, List.map_append, List.sum_append]
  simp [List.getD_eq_getElem?_getD, List.getElem?_eq_getElem h]
theorem tot_mono (rows : List (List Int)) {j k : Nat} (h : j ≤ k) : tot rows j ≤ tot rows k := by
  induction k with
  | zero => have : j = 0 := by omega
            subst this; exact Nat.le_refl _
  | succ k ih =>
    by_cases e : j = k + 1
    · subst e; exact Nat.le_refl _
    · have h1 := ih (by omega)
      by_cases hk : k < rows.length
      · rw [tot_succ rows k hk]; omega
      · have : tot rows (k + 1) = tot rows k := by unfold tot; rw [List.take_of_length_le (by omega), List.take_of_length_le (by omega)]
        omega
/-- What a size's helper hands back. -/
def szOut (l m : Nat) : Int := if m ≤ l then ((l - m : Nat) : Int) else -1
theorem szOut_yes {l m : Nat} (h : m ≤ l) : szOut l m = ((l - m : Nat) : Int) := if_pos h
theorem szOut_no {l m : Nat} (h : l < m) : szOut l m = -1 := if_neg (by omega)
theorem szIntS_yes (A : Option Addr) (n c l : Nat) (w : World) (hl : l ≤ 1048576) (h : n ≤ l) :
    Calls Try.prog 58 #[.slice A n c, .int .i64 l] w fun e w' => e = .returned (.int .i64 ((l - n : Nat) : Int)) ∧ w = w' := by
  go_enter Try.func58, Try.ntmps58
  have h' : ¬ ((l : Int) - (n : Int) < 0) := by omega
  go_wp2_with fail
  go_ret
  exact ⟨retI (by omega), rfl⟩
theorem szIntS_no (A : Option Addr) (n c l : Nat) (w : World) (hn : n ≤ 9223372036854775807) (hl : l ≤ 1048576) (h : l < n) :
    Calls Try.prog 58 #[.slice A n c, .int .i64 l] w fun e w' => e = .returned (.int .i64 (-1)) ∧ w = w' := by
  go_enter Try.func58, Try.ntmps58
  have h' : (l : Int) - (n : Int) < 0 := by omega
  go_wp2_with fail
  go_ret
  exact ⟨rfl, rfl⟩
theorem el_ints : El Try.prog 67 22 (.slice none 0 0) 1 24 := ⟨Try.underlying67, by kernel_rfl, rfl, by decide⟩
theorem rep_at {α : Type} (d : α) (n i : Nat) (x : α) (h : (List.replicate n d)[i]? = some x) : x = d := by
  rw [List.getElem?_replicate] at h
  split at h
  · injection h with h; exact h.symm
  · cases h
theorem own_made_rows {w : World} {lo n c : Nat} {v : Value} (h : w.ownsRow lo 22 1 v n (List.replicate n (.slice none 0 0))) : OwnC w lo 22 1 v n ((List.replicate n ([] : List Int)).map ir) (List.replicate n (.slice none 0 0)) :=
  ⟨by simp, h, fun i cd u hc hu => by
    rw [List.map_replicate] at hc
    rw [rep_at _ _ _ _ hc, rep_at _ _ _ _ hu]
    exact World.ownsRow_nil _ _ _ _, fun i j a b _ ha hb => by rw [rep_at _ _ _ _ ha]; intro g hg; simp [Value.ownBlock] at hg, fun u hu => by rw [List.eq_of_mem_replicate hu]; intro g _ hg; simp [Value.ownBlock] at hg⟩
end Go.Proofs.Ythncoohkdmjcaaa
