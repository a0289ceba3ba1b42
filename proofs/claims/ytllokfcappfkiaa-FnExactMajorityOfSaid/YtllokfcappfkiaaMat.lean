/-
  Lists of lists of numbers: the laws' helpers toIntSS, eqIntSS, markIntSS, szIntSS.
-/
import Derived.Test.YtllokfcappfkiaaSame
import Derived.StillTailTactics
namespace Go.Proofs.Ytllokfcappfkiaa
open Go.RowKit
set_option linter.unusedVariables false
abbrev Mat (w : World) (A : Option Addr) (n : Nat) (rows : List (List Int)) : Prop := RdC w 1 A n (rows.map ir)
theorem mat_len {w : World} {A : Option Addr} {n : Nat} {rows : List (List Int)} (h : Mat w A n rows) : rows.length = n := by simpa using RdC.len h
theorem mat_at {w : World} {A : Option Addr} {n : Nat} {rows : List (List Int)} (h : Mat w A n rows) {k : Nat} (hk : k < n) :
    ∃ b o B c, A = some ⟨b, o, none⟩ ∧ b < w.heap.size ∧ w.cell? ⟨b, o + k, none⟩ = some (.slice B (rows.getD k []).length c) ∧ Ints w B (rows.getD k []).length (rows.getD k []) ∧ (rows.getD k []).length ≤ c ∧ c ≤ maxLen := by
  obtain ⟨b, o, v, cd, rfl, hb, hcd, hc, hr⟩ := RdC.at_ h (i := k) (by omega)
  rw [List.getElem?_map] at hcd
  cases hrow : rows[k]? with
  | none => rw [hrow] at hcd; cases hcd
  | some r =>
    rw [hrow] at hcd
    injection hcd with hcd
    subst hcd
    obtain ⟨B, c, rfl, h1, h2, h3⟩ := ir_rd hr
    have e : rows.getD k [] = r := by rw [List.getD_eq_getElem?_getD, hrow]; rfl
    rw [e]
    exact ⟨b, o, B, c, rfl, hb, hc, h3, h1, h2⟩
def tot (rows : List (List Int)) (k : Nat) : Nat := ((rows.take k).map List.length).sum
theorem tot_zero (rows : List (List Int)) : tot rows 0 = 0 := by simp [tot]
theorem tot_succ (rows : List (List Int)) (k : Nat) (h : k < rows.length) : tot rows (k + 1) = tot rows k + (rows.getD k []).length := by
  unfold tot
  rw [List.take_succ_eq_append_getElem h, List.map_append, List.sum_append]
  simp [List.getD_eq_getElem?_getD, List.getElem?_eq_getElem h]
theorem tot_mono (rows : List (List Int)) {j k : Nat} (h : j ≤ k) : tot rows j ≤ tot rows k := by
  induction k with
  | zero => have : j = 0 := by omega
            subst this; exact Nat.le_refl _
  | succ k ih =>
    by_cases e : j = k + 1
    · subst e; exact Nat.le_refl _
    · have h1 := ih (by omega)
      by_cases hk : k < rows.length
      · rw [tot_succ rows k hk]; omega
      · have : tot rows (k + 1) = tot rows k := by unfold tot; rw [List.take_of_length_le (by omega), List.take_of_length_le (by omega)]
        omega
/-- What a size's helper hands back. -/
def szOut (l m : Nat) : Int := if m ≤ l then ((l - m : Nat) : Int) else -1
theorem szOut_yes {l m : Nat} (h : m ≤ l) : szOut l m = ((l - m : Nat) : Int) := if_pos h
theorem szOut_no {l m : Nat} (h : l < m) : szOut l m = -1 := if_neg (by omega)
theorem szIntS_yes (A : Option Addr) (n c l : Nat) (w : World) (hl : l ≤ 1048576) (h : n ≤ l) :
    Calls Try.prog 105 #[.slice A n c, .int .i64 l] w fun e w' => e = .returned (.int .i64 ((l - n : Nat) : Int)) ∧ w = w' := by
  go_enter Try.func105, Try.ntmps105
  have h' : ¬ ((l : Int) - (n : Int) < 0) := by omega
  go_wp2_with fail
  go_ret
  exact ⟨retI (by omega), rfl⟩
theorem szIntS_no (A : Option Addr) (n c l : Nat) (w : World) (hn : n ≤ 9223372036854775807) (hl : l ≤ 1048576) (h : l < n) :
    Calls Try.prog 105 #[.slice A n c, .int .i64 l] w fun e w' => e = .returned (.int .i64 (-1)) ∧ w = w' := by
  go_enter Try.func105, Try.ntmps105
  have h' : (l : Int) - (n : Int) < 0 := by omega
  go_wp2_with fail
  go_ret
  exact ⟨rfl, rfl⟩
set_option maxHeartbeats 400000 in
theorem szIntSS_c (A : Option Addr) (n c l : Nat) (rows : List (List Int)) (w : World) (hx : Mat w A n rows) (hn : n ≤ 9223372036854775807) (hl : l ≤ 1048576) :
    Calls Try.prog 76 #[.slice A n c, .int .i64 l] w fun e w' => e = .returned (.int .i64 (szOut l (n + tot rows n))) ∧ w = w' := by
  have LX := Lib.hid (mat_len hx)
  by_cases hbig : l < n
  · have h' : (l : Int) - (n : Int) < 0 := by omega
    have HB := Lib.hid hbig
    clear hbig
    go_enter Try.func76, Try.ntmps76
    go_wp2_with fail
    go_ret
    have := HB.out
    exact ⟨retI (szOut_no (by omega)).symm, rfl⟩
  · have h' : ¬ ((l : Int) - (n : Int) < 0) := by omega
    go_enter Try.func76, Try.ntmps76
    go_wp2_with fail
    go_loop [1, 5] (fun s i => ∃ k q : Nat, k ≤ n ∧ i = .int .i64 k ∧ s = .int .i64 q ∧ q ≤ l ∧ Hid (q + n + tot rows k = l)) (fun _ i => n - (intOf i).toNat)
    case atStart => exact ⟨0, l - n, Nat.zero_le _, rfl, by go_num, by omega, by unfold Hid; rw [tot_zero]; omega⟩
    case round =>
      obtain ⟨k, q, hk, rfl, rfl, hql, hq⟩ := hrel
      by_cases hlt : k < n
      · obtain ⟨b, o, B, c', rfl, hb, q1, q2, q3, q4⟩ := mat_at hx hlt
        have HS := Lib.hid (tot_succ rows k (by have := LX.out; omega))
        have HM := Lib.hid (tot_mono rows (show k + 1 ≤ n by omega))
        have i1 : (k : Int) < (n : Int) := by omega
        generalize rows.getD k [] = r at *
        generalize hrl : r.length = rl at *
        unfold maxLen at q4
        by_cases hfit : rl ≤ q
        · go_wp2_with fail
          refine (szIntS_yes B rl c' q _ (by omega) hfit).mono ?_
          rintro e w1 ⟨rfl, rfl⟩
          have h'' : ¬ (((q - rl : Nat) : Int) < 0) := by omega
          go_wp2_with fail
          go_round
          case rel => exact ⟨k + 1, q - rl, by omega, by go_num, rfl, by omega, by have h1 := HS.out; have h2 := hq.out; unfold Hid; omega⟩
          case measure => simp [intOf]; omega
        · go_wp2_with fail
          refine (szIntS_no B rl c' q _ (by omega) (by omega) (by omega)).mono ?_
          rintro e w1 ⟨rfl, rfl⟩
          go_wp2_with fail
          go_ret
          have h1 := HS.out; have h2 := hq.out; have h3 := HM.out
          exact ⟨retI (szOut_no (by omega)).symm, rfl⟩
      · have hkn : k = n := by omega
        subst hkn
        go_wp2_with fail
        go_ret
        have h2 := hq.out
        exact ⟨retI (by rw [szOut_yes (by omega)]; omega), rfl⟩
set_option maxRecDepth 100000 in
set_option maxHeartbeats 400000 in
theorem eqIntSS_c (A B : Option Addr) (n c d : Nat) (rows : List (List Int)) (w : World) (hx : Mat w A n rows) (hy : Mat w B n rows) (hn : n ≤ 4611686018427387903) (hs : ∀ k, (rows.getD k []).length ≤ 4611686018427387903) :
    Calls Try.prog 79 #[.slice A n c, .slice B n d] w fun e w' => e = .returned (.bool true) ∧ w.grownBy w' none := by
  have hd : ((n : Int) != (n : Int)) = false := by simp
  go_enter Try.func79, Try.ntmps79
  go_wp2_with fail
  go_loopw [5] (fun i wr => ∃ k : Nat, k ≤ n ∧ i = .int .i64 k ∧ Hid (w.grownBy wr none)) (fun i _ => n - (intOf i).toNat)
  case atStart => exact ⟨0, Nat.zero_le _, rfl, gbR _ _⟩
  case round =>
    obtain ⟨k, hk, rfl, hg⟩ := hrel
    by_cases hlt : k < n
    · obtain ⟨b, o, C, c1, rfl, hb, q1, q2, q3, q4⟩ := mat_at (RdC.grow hx hg.out) hlt
      obtain ⟨b', o', C', c1', rfl, hb', r1, r2, r3, r4⟩ := mat_at (RdC.grow hy hg.out) hlt
      have hsk := Lib.hid (hs k)
      have i1 : (k : Int) < (n : Int) := by omega
      generalize rows.getD k [] = r at *
      have Q2 := Lib.hid q2
      have R2 := Lib.hid r2
      clear q2 r2 q3 q4 r3 r4
      generalize hrl : r.length = rl at *
      clear hrl
      go_wp2_with fail
      go_still_tail 8, (by kernel_rfl)
      go_wp2_with fail
      refine (eqIntS_c _ _ _ _ _ _ r r _ (Ints.grow Q2.out (gbD (gbR _ _))) (Ints.grow R2.out (gbD (gbR _ _))) hsk.out hsk.out).mono ?_
      rintro e w2 ⟨rfl, q, rfl⟩
      rw [beq_self_eq_true]
      go_wp2_with fail
      go_roundw
      case rel => exact ⟨k + 1, by omega, by go_num, gbDN hg.out _⟩
      case measure => simp [intOf]; omega
    · have hkn : k = n := by omega
      subst hkn
      go_wp2_with fail
      go_ret
      exact ⟨rfl, hg.out⟩
theorem el_ints : El Try.prog 68 31 (.slice none 0 0) 1 24 := ⟨Try.underlying68, by kernel_rfl, rfl, by decide⟩
theorem rep_at {α : Type} (d : α) (n i : Nat) (x : α) (h : (List.replicate n d)[i]? = some x) : x = d := by
  rw [List.getElem?_replicate] at h
  split at h
  · injection h with h; exact h.symm
  · cases h
theorem own_made_rows {w : World} {lo n c : Nat} {v : Value} (h : w.ownsRow lo 31 1 v n (List.replicate n (.slice none 0 0))) : OwnC w lo 31 1 v n ((List.replicate n ([] : List Int)).map ir) (List.replicate n (.slice none 0 0)) :=
  ⟨by simp, h, fun i cd u hc hu => by
    rw [List.map_replicate] at hc
    rw [rep_at _ _ _ _ hc, rep_at _ _ _ _ hu]
    exact World.ownsRow_nil _ _ _ _, fun i j a b _ ha hb => by rw [rep_at _ _ _ _ ha]; intro g hg; simp [Value.ownBlock] at hg, fun u hu => by rw [List.eq_of_mem_replicate hu]; intro g _ hg; simp [Value.ownBlock] at hg⟩
set_option maxHeartbeats 800000 in
theorem toIntSS_c (A : Option Addr) (n c : Nat) (rows : List (List Int)) (w : World) (hx : Mat w A n rows) (hn : n ≤ 1099511627776) (hs : ∀ k, (rows.getD k []).length ≤ 1099511627776) :
    Calls Try.prog 78 #[.slice A n c] w fun e w' => ∃ g vs, e = .returned (.slice (some ⟨g, 0, none⟩) n n) ∧ OwnC w' w.heap.size 31 1 (.slice (some ⟨g, 0, none⟩) n n) n (rows.map ir) vs ∧ w.grownBy w' none := by
  have lx := Lib.hid (mat_len hx)
  go_enter Try.func78, Try.ntmps78
  go_wp2_with (at_make; refine wp_makeN _ el_ints rfl _ _ rfl n rfl rfl (by omega) (by unfold maxLen; omega) ?_; intro w1 hown1 hg1; rw [show (Value.slice none 0 0).cells = #[.slice none 0 0] from rfl, made_one] at hown1)
  have O1 := Lib.hid (own_made_rows (c := 0) hown1)
  have G1 := Lib.hid hg1
  clear hown1 hg1
  go_loopw [4] (fun i wr => ∃ (k : Nat) (vs : List Value), k ≤ n ∧ i = .int .i64 k ∧ Hid (OwnC wr w.heap.size 31 1 (.slice (some ⟨w.heap.size, 0, none⟩) n n) n ((rows.take k ++ List.replicate (rows.length - k) []).map ir) vs) ∧ Hid (w.grownBy wr none)) (fun i _ => n - (intOf i).toNat)
  case atStart => exact ⟨0, _, Nat.zero_le _, rfl, by have h := O1.out; rw [← lx.out] at h; simpa [Hid, lx.out] using h, G1.out⟩
  case round =>
    obtain ⟨k, vs, hk, rfl, hown, hg⟩ := hrel
    by_cases hlt : k < n
    · obtain ⟨b, o, C, c1, rfl, hb, q1, q2, q3, q4⟩ := mat_at (RdC.grow hx hg.out) hlt
      have hsk := Lib.hid (hs k)
      have i1 : (k : Int) < (n : Int) := by omega
      have hlk : k < rows.length := by have := lx.out; omega
      have HR : Hid (rows[k] = rows.getD k []) := by unfold Hid; simp [List.getD_eq_getElem?_getD, List.getElem?_eq_getElem hlk]
      generalize rows.getD k [] = r at *
      have Q2 := Lib.hid q2
      clear q2 q3 q4
      generalize hrl : r.length = rl at *
      have HRL := Lib.hid hrl
      clear hrl
      go_wp2_with fail
      refine (toIntS_c C rl c1 r _ Q2.out hsk.out).mono ?_
      rintro e w2 ⟨g2, rfl, o2, h2⟩
      have hown2 := hown.out.grow h2
      have hvl : vs.length = n := by have := hown2.len; have := lx.out; simp at *; omega
      obtain ⟨u0, r0⟩ : ∃ u, w2.cell? ⟨w.heap.size, k, none⟩ = some u := ⟨_, (hown2.outer.cellAt k (by omega)).trans (List.getElem?_eq_getElem (by omega))⟩
      have f0 := hown2.outer.frozenAt k
      have hbl : ∀ g, (Value.slice (some ⟨g2, 0, none⟩) rl rl).ownBlock = some g → wr.heap.size ≤ g := fun g hg' => (o2.lt g hg').1
      have hset := hown2.set_ (k := k) (cd := ir r) (u := .slice (some ⟨g2, 0, none⟩) rl rl) (by simp; have := lx.out; omega) (by
          have h := own_base o2 hg.out.size
          unfold CD.own ir
          rw [HRL.out]; exact h) (fun g h1 h3 => by
          have h4 := hbl g h3
          have h5 := hown.out.outer.lt g h1
          omega) (fun x hx' g h1 h3 => by
          have h4 := hbl g h3
          have h5 := hown.out.blocks x hx' g h1
          omega)
      have hcds : ((rows.take k ++ List.replicate (rows.length - k) []).map ir).set k (ir r) = (rows.take (k + 1) ++ List.replicate (rows.length - (k + 1)) []).map ir := by
        rw [← List.map_set, ← HR.out, fillD_step [] rows k hlk]
      rw [hcds] at hset
      have HN := Lib.hid hset.1
      have G3 := Lib.hid (gbN (gbT hg.out h2) hset.2 (fun g e => by injection e with e; omega))
      clear hset hcds hown2 hown hbl o2 h2
      go_wp2_with fail
      go_roundw
      case rel => exact ⟨k + 1, _, by omega, by go_num, HN.out, G3.out⟩
      case measure => simp [intOf]; omega
    · have hkn : k = n := by omega
      subst hkn
      go_wp2_with fail
      go_ret
      have hl := lx.out
      have ho := hown.out
      rw [hl, Nat.sub_self, List.replicate_zero, List.append_nil, List.take_of_length_le (by omega)] at ho
      exact ⟨_, vs, rfl, ho, hg.out⟩
end Go.Proofs.Ytllokfcappfkiaa
