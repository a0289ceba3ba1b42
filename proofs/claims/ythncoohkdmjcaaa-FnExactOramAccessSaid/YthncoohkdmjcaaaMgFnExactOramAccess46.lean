/-
  Opening a law's arguments: fields of structs, by what they read as.
-/
import Derived.Test.YthncoohkdmjcaaaMgFnExactOramAccess45
import Derived.Test.YthncoohkdmjcaaaMgFnExactOramAccess9
import Derived.Test.YthncoohkdmjcaaaMgFnExactOramAccess25
import Derived.StillTailTactics
import Derived.Test.YthncoohkdmjcaaaMgFnExactOramAccess11
namespace Go.Proofs.Ythncoohkdmjcaaa
open Go.ChangeShapes Go.WideShapes Go.ChangeAt Go.RowKit Go.Joins Go.Deep
set_option linter.unusedVariables false
set_option linter.unusedSimpArgs false
section
variable {H : Type} {enc : TypeId × Value → H} {P : Program} {w : World} {base : Nat} {spare : Nat → Bool} {held : Bool}
theorem kInts {t e : TypeId} {m : Nat} {v : Value} {y : DataW H × List MemPlace} (ht : P.underlying t = some (.slice e)) (he : P.underlying e = some (.int .i64)) (hc : P.cellsOf e = 1)
    (h : DataW.trod enc P w base spare held m t [v] = some y) : ∃ xs, (cints xs).rd w v ∧ ∀ z ∈ xs, i64w z := by
  rcases open_ints ht he hc h with ⟨hcs, _⟩ | ⟨a, l, c, zs, hcs, _, hl, hm, hz, _, hcell, hwz⟩
  · simp at hcs
    exact ⟨[], by rw [hcs]; exact cints_mk (Ints.nil w none) (Nat.le_refl _) (by simp), by simp⟩
  · simp at hcs
    have hlz : l ≤ zs.length := by rw [hz]; split <;> omega
    refine ⟨zs.take l, ?_, fun z hz' => wf_i64 (hwz z (List.mem_of_mem_take hz'))⟩
    rw [hcs]
    refine cints_mk ⟨by simp; omega, fun hp => ?_⟩ hl hm
    obtain ⟨b, o, s⟩ := a
    have h0 := hcell 0 (by omega)
    have hs : s = none := by simpa [Addr.add] using World.cell?_spot h0
    subst hs
    refine ⟨b, o, rfl, World.block_lt_of_cell? w _ h0, fun j hj => ?_⟩
    have hj' := hcell j (by omega)
    rw [add_off] at hj'
    rw [hj', List.getElem?_map, List.getElem?_take, if_pos (by omega), List.getElem?_eq_getElem (show j < zs.length by omega)]
    simp [List.getD_eq_getElem?_getD, List.getElem?_eq_getElem (show j < zs.length by omega)]
theorem tSC {t e : TypeId} {m : Nat} {v : Value} {y : DataW H × List MemPlace} (ht : P.underlying t = some (.slice e)) (he : P.underlying e = some (.int .i64)) (hc : P.cellsOf e = 1)
    (h : DataW.trod enc P w base spare held m t [v] = some y) : ∃ A n c zs, v = .slice A n c ∧ IntsK .i64 w A n zs ∧ n ≤ c ∧ c ≤ maxLen := by
  rcases open_ints ht he hc h with ⟨hcs, _⟩ | ⟨a, l, c, zs, hcs, _, hl, hm, hz, _, hcell, hwz⟩
  · simp at hcs
    exact ⟨none, 0, 0, [], hcs, ⟨⟨by simp, fun h => absurd h (by omega)⟩, by simp⟩, Nat.le_refl _, by simp⟩
  · simp at hcs
    have hlz : l ≤ zs.length := by rw [hz]; split <;> omega
    refine ⟨some a, l, c, zs.take l, hcs, ⟨⟨by simp; omega, fun hp => ?_⟩, fun z hz' => hwz z (List.mem_of_mem_take hz')⟩, hl, hm⟩
    obtain ⟨b, o, s⟩ := a
    have h0 := hcell 0 (by omega)
    have hs : s = none := by simpa [Addr.add] using World.cell?_spot h0
    subst hs
    refine ⟨b, o, rfl, World.block_lt_of_cell? w _ h0, fun j hj => ?_⟩
    have hj' := hcell j (by omega)
    rw [add_off] at hj'
    rw [hj', List.getElem?_map, List.getElem?_take, if_pos (by omega), List.getElem?_eq_getElem (show j < zs.length by omega)]
    simp [List.getD_eq_getElem?_getD, List.getElem?_eq_getElem (show j < zs.length by omega)]
theorem kSt2 {t e E : TypeId} {fs : Array Field} {m : Nat} {v : Value} {y : DataW H × List MemPlace} (ht : P.underlying t = some (.slice e)) (he : P.underlying e = some (.struct fs))
    (hone : oneCellFields P fs = true) (hC : P.cellsOf e = fs.size) (hint : ∀ (j : Nat) (f : Field), fs[j]? = some f → P.underlying f.type = some (.int .i64)) (hs : fs.size = 2)
    (h : DataW.trod enc P w base spare held m t [v] = some y) : ∃ xs, (plst E 2 c2 xs).rd w v ∧ ∀ x ∈ xs, w2 x := by
  obtain ⟨A, n, c, zss, rfl, h1, h2, h3, h4, h5⟩ := tSK ht he hone hC hint (by omega) h
  rw [hs] at h4 h5
  obtain ⟨xs, q1, q2⟩ := fl2 h3 h4 h5
  exact ⟨xs, plst_mk c2_len c2_one q1 h1 h2, q2⟩
theorem kSt3 {t e E : TypeId} {fs : Array Field} {m : Nat} {v : Value} {y : DataW H × List MemPlace} (ht : P.underlying t = some (.slice e)) (he : P.underlying e = some (.struct fs))
    (hone : oneCellFields P fs = true) (hC : P.cellsOf e = fs.size) (hint : ∀ (j : Nat) (f : Field), fs[j]? = some f → P.underlying f.type = some (.int .i64)) (hs : fs.size = 3)
    (h : DataW.trod enc P w base spare held m t [v] = some y) : ∃ xs, (plst E 3 c3 xs).rd w v ∧ ∀ x ∈ xs, w3 x := by
  obtain ⟨A, n, c, zss, rfl, h1, h2, h3, h4, h5⟩ := tSK ht he hone hC hint (by omega) h
  rw [hs] at h4 h5
  obtain ⟨xs, q1, q2⟩ := fl3 h3 h4 h5
  exact ⟨xs, plst_mk c3_len c3_one q1 h1 h2, q2⟩
end
end Go.Proofs.Ythncoohkdmjcaaa
/-
  Lists of lists of numbers: the laws' helpers toIntSS, eqIntSS, markIntSS, szIntSS.
-/
namespace Go.Proofs.Ythncoohkdmjcaaa
open Go.RowKit
set_option linter.unusedVariables false
set_option linter.unusedSimpArgs false
abbrev Mat (w : World) (A : Option Addr) (n : Nat) (rows : List (List Int)) : Prop := RdC w 1 A n (rows.map ir)
theorem mat_len {w : World} {A : Option Addr} {n : Nat} {rows : List (List Int)} (h : Mat w A n rows) : rows.length = n := by simpa using RdC.len h
theorem mat_at {w : World} {A : Option Addr} {n : Nat} {rows : List (List Int)} (h : Mat w A n rows) {k : Nat} (hk : k < n) :
    ∃ b o B c, A = some ⟨b, o, none⟩ ∧ b < w.heap.size ∧ w.cell? ⟨b, o + k, none⟩ = some (.slice B (rows.getD k []).length c) ∧ Ints w B (rows.getD k []).length (rows.getD k []) ∧ (rows.getD k []).length ≤ c ∧ c ≤ maxLen := by
  obtain ⟨b, o, v, cd, rfl, hb, hcd, hc, hr⟩ := RdC.at_ h (i := k) (by omega)
  rw [List.getElem?_map] at hcd
  cases hrow : rows[k]? with
  | none => rw [hrow] at hcd; cases hcd
  | some r =>
    rw [hrow] at hcd
    injection hcd with hcd
    subst hcd
    obtain ⟨B, c, rfl, h1, h2, h3⟩ := ir_rd hr
    have e : rows.getD k [] = r := by rw [List.getD_eq_getElem?_getD, hrow]; rfl
    rw [e]
    exact ⟨b, o, B, c, rfl, hb, hc, h3, h1, h2⟩
def tot (rows : List (List Int)) (k : Nat) : Nat := ((rows.take k).map List.length).sum
theorem tot_zero (rows : List (List Int)) : tot rows 0 = 0 := by simp [tot]
theorem tot_succ (rows : List (List Int)) (k : Nat) (h : k < rows.length) : tot rows (k + 1) = tot rows k + (rows.getD k []).length := by
  unfold tot
  rw [List.take_succ_eq_append_getElem h, List.map_append, List.sum_append]
  simp [List.getD_eq_getElem?_getD, List.getElem?_eq_getElem h]
theorem tot_mono (rows : List (List Int)) {j k : Nat} (h : j ≤ k) : tot rows j ≤ tot rows k := by
  induction k with
  | zero => have : j = 0 := by omega
            subst this; exact Nat.le_refl _
  | succ k ih =>
    by_cases e : j = k + 1
    · subst e; exact Nat.le_refl _
    · have h1 := ih (by omega)
      by_cases hk : k < rows.length
      · rw [tot_succ rows k hk]; omega
      · have : tot rows (k + 1) = tot rows k := by unfold tot; rw [List.take_of_length_le (by omega), List.take_of_length_le (by omega)]
        omega
/-- What a size's helper hands back. -/
def szOut (l m : Nat) : Int := if m ≤ l then ((l - m : Nat) : Int) else -1
theorem szOut_yes {l m : Nat} (h : m ≤ l) : szOut l m = ((l - m : Nat) : Int) := if_pos h
theorem szOut_no {l m : Nat} (h : l < m) : szOut l m = -1 := if_neg (by omega)
theorem szIntS_yes (A : Option Addr) (n c l : Nat) (w : World) (hl : l ≤ 1048576) (h : n ≤ l) :
    Calls Try.prog 58 #[.slice A n c, .int .i64 l] w fun e w' => e = .returned (.int .i64 ((l - n : Nat) : Int)) ∧ w = w' := by
  go_enter Try.func58, Try.ntmps58
  have h' : ¬ ((l : Int) - (n : Int) < 0) := by omega
  go_wp2_with fail
  go_ret
  exact ⟨retI (by omega), rfl⟩
theorem szIntS_no (A : Option Addr) (n c l : Nat) (w : World) (hn : n ≤ 9223372036854775807) (hl : l ≤ 1048576) (h : l < n) :
    Calls Try.prog 58 #[.slice A n c, .int .i64 l] w fun e w' => e = .returned (.int .i64 (-1)) ∧ w = w' := by
  go_enter Try.func58, Try.ntmps58
  have h' : (l : Int) - (n : Int) < 0 := by omega
  go_wp2_with fail
  go_ret
  exact ⟨rfl, rfl⟩
theorem el_ints : El Try.prog 67 22 (.slice none 0 0) 1 24 := ⟨Try.underlying67, by kernel_rfl, rfl, by decide⟩
theorem rep_at {α : Type} (d : α) (n i : Nat) (x : α) (h : (List.replicate n d)[i]? = some x) : x = d := by
  rw [List.getElem?_replicate] at h
  split at h
  · injection h with h; exact h.symm
  · cases h
theorem own_made_rows {w : World} {lo n c : Nat} {v : Value} (h : w.ownsRow lo 22 1 v n (List.replicate n (.slice none 0 0))) : OwnC w lo 22 1 v n ((List.replicate n ([] : List Int)).map ir) (List.replicate n (.slice none 0 0)) :=
  ⟨by simp, h, fun i cd u hc hu => by
    rw [List.map_replicate] at hc
    rw [rep_at _ _ _ _ hc, rep_at _ _ _ _ hu]
    exact World.ownsRow_nil _ _ _ _, fun i j a b _ ha hb => by rw [rep_at _ _ _ _ ha]; intro g hg; simp [Value.ownBlock] at hg, fun u hu => by rw [List.eq_of_mem_replicate hu]; intro g _ hg; simp [Value.ownBlock] at hg⟩
end Go.Proofs.Ythncoohkdmjcaaa
/-
  Opening a law's arguments: lists of lists of numbers.
-/
namespace Go.Proofs.Ythncoohkdmjcaaa
open Go.ChangeShapes Go.WideShapes Go.ChangeAt Go.RowKit Go.Joins Go.Deep
set_option linter.unusedVariables false
set_option linter.unusedSimpArgs false
section
variable {H : Type} {enc : TypeId × Value → H} {P : Program} {w : World} {base : Nat} {spare : Nat → Bool} {held : Bool}
theorem tS2 {t e : TypeId} {k : IntKind} {m : Nat} {v : Value} {y : DataW H × List MemPlace} (ht : P.underlying t = some (.slice e)) (he : P.underlying e = some (.int k)) (hc : P.cellsOf e = 1)
    (h : DataW.trod enc P w base spare held m t [v] = some y) : ∃ A n c zs, v = .slice A n c ∧ IntsK k w A n zs ∧ n ≤ c ∧ c ≤ maxLen := by
  rcases open_ints ht he hc h with ⟨hcs, _⟩ | ⟨a, l, c, zs, hcs, _, hl, hm, hz, _, hcell, hwz⟩
  · simp at hcs
    exact ⟨none, 0, 0, [], hcs, ⟨⟨by simp, fun h => absurd h (by omega)⟩, by simp⟩, by simp, by simp⟩
  · simp at hcs
    have hlz : l ≤ zs.length := by rw [hz]; split <;> omega
    refine ⟨some a, l, c, zs.take l, hcs, ⟨⟨by simp; omega, fun hp => ?_⟩, fun z hz' => hwz z (List.mem_of_mem_take hz')⟩, by omega, by omega⟩
    obtain ⟨b, o, s⟩ := a
    have h0 := hcell 0 (by omega)
    have hs : s = none := by simpa [Addr.add] using World.cell?_spot h0
    subst hs
    refine ⟨b, o, rfl, World.block_lt_of_cell? w _ h0, fun j hj => ?_⟩
    have hj' := hcell j (by omega)
    rw [add_off] at hj'
    rw [hj', List.getElem?_map, List.getElem?_take, if_pos (by omega), List.getElem?_eq_getElem (show j < zs.length by omega)]
    simp [List.getD_eq_getElem?_getD, List.getElem?_eq_getElem (show j < zs.length by omega)]
theorem trod_len {t : TypeId} {m : Nat} {cs : List Value} {y : DataW H × List MemPlace} {e : TypeId} (ht : P.underlying t = some (.slice e)) (h : DataW.trod enc P w base spare held m t cs = some y) : ∃ v, cs = [v] := by
  rcases open_slice ht h with ⟨h0, _⟩ | ⟨a, len, cap, mm, n, D, Pl, hcs, _⟩
  · exact ⟨_, h0⟩
  · exact ⟨_, hcs⟩
theorem tSS {t e f : TypeId} {m : Nat} {v : Value} {y : DataW H × List MemPlace} (ht : P.underlying t = some (.slice e)) (he : P.underlying e = some (.slice f)) (hf : P.underlying f = some (.int .i64)) (hc : P.cellsOf f = 1) (hce : P.cellsOf e = 1)
    (h : DataW.trod enc P w base spare held m t [v] = some y) : ∃ A n c rows, v = .slice A n c ∧ Mat w A n rows ∧ n ≤ c ∧ c ≤ maxLen ∧ ∀ r ∈ rows, ∀ z ∈ r, (Lit.int .i64 z).wf = true := by
  rcases open_slice ht h with ⟨hcs, _⟩ | ⟨a, len, cap, mm, n, D, Pl, hcs, hb, hl, hm, hmm, hx, hi⟩
  · simp at hcs
    exact ⟨none, 0, 0, [], hcs, ⟨[], rfl, fun i cd u hcd => by simp at hcd, by simp, fun h => absurd h (by omega)⟩, by simp, by simp, by simp⟩
  · simp at hcs
    have hrow : ∀ i, i < len → ∃ vr : Value × List Int, w.cell? (a.add i) = some vr.1 ∧ (ir vr.2).rd w vr.1 ∧ ∀ z ∈ vr.2, (Lit.int .i64 z).wf = true := fun i hil => by
      obtain ⟨cs', hc', ht'⟩ := hi i (by rw [hmm]; split <;> omega)
      obtain ⟨u, rfl⟩ := trod_len he ht'
      obtain ⟨A, k, c, zs, rfl, hz, h1, h2⟩ := tS2 he hf hc ht'
      rw [hce, Nat.mul_one] at hc'
      obtain ⟨_, hcl, hat⟩ := World.cells?_some hc'
      have h0 := hat 0 (by omega)
      have hk : zs.length = k := Ints.len hz.ints
      refine ⟨(.slice A k c, zs), ?_, ?_, hz.2⟩
      · simpa [Addr.add] using h0
      · subst hk
        exact ⟨A, c, rfl, h1, h2, hz.1⟩
    obtain ⟨vrs, hvl, hv⟩ := list_of _ len hrow
    refine ⟨some a, len, cap, vrs.map (·.2), hcs, ⟨vrs.map (·.1), by simp, fun i cd u hcd hu => ?_, by simp [hvl], fun hp => ?_⟩, hl, hm, fun r hr z hz => ?_⟩
    · rw [List.getElem?_map] at hu
      cases hvi : vrs[i]? with
      | none => rw [hvi] at hu; cases hu
      | some vr =>
        rw [List.getElem?_map, List.getElem?_map, hvi] at hcd
        rw [hvi] at hu
        injection hu with hu
        injection hcd with hcd
        subst hu; subst hcd
        exact (hv i vr hvi).2.1
    · obtain ⟨b, o, s⟩ := a
      have hv0 : vrs[0]? = some (vrs[0]'(by omega)) := List.getElem?_eq_getElem (by omega)
      have h0 := (hv 0 _ hv0).1
      have hs : s = none := by simpa [Addr.add] using World.cell?_spot h0
      subst hs
      rw [add_off] at h0
      refine ⟨b, o, rfl, World.block_lt_of_cell? w _ h0, fun j hj => ?_⟩
      have hvj : vrs[j]? = some (vrs[j]'(by omega)) := List.getElem?_eq_getElem (by omega)
      have h1 := (hv j _ hvj).1
      rw [add_off] at h1
      rw [h1, List.getElem?_map, hvj]
      rfl
    · obtain ⟨vr, hvr, rfl⟩ := List.mem_map.1 hr
      obtain ⟨i, hi⟩ := List.mem_iff_getElem?.1 hvr
      exact (hv i vr hi).2.2 z hz
end
end Go.Proofs.Ythncoohkdmjcaaa
/-
  Opening a law's arguments: slices of slices, by what they read as.
-/
namespace Go.Proofs.Ythncoohkdmjcaaa
open Go.ChangeShapes Go.WideShapes Go.ChangeAt Go.RowKit Go.Joins Go.Deep
set_option linter.unusedVariables false
set_option linter.unusedSimpArgs false
section
variable {H : Type} {enc : TypeId × Value → H} {P : Program} {w : World} {base : Nat} {spare : Nat → Bool} {held : Bool}
theorem kRows {α : Type} {t e e' EE : TypeId} {m : Nat} {v : Value} {y : DataW H × List MemPlace} (f : α → CS) {Q : α → Prop} (ht : P.underlying t = some (.slice e)) (he : P.underlying e = some (.slice e')) (hce : P.cellsOf e = 1)
    (hin : ∀ (m : Nat) (u : Value) (y : DataW H × List MemPlace), DataW.trod enc P w base spare held m e [u] = some y → ∃ xs : α, (f xs).rd w u ∧ Q xs)
    (h : DataW.trod enc P w base spare held m t [v] = some y) : ∃ xss : List α, (lst EE 1 (fun l => [f l]) xss).rd w v ∧ ∀ x ∈ xss, Q x := by
  rcases open_slice ht h with ⟨hcs, _⟩ | ⟨a, len, cap, mm, n, D, Pl, hcs, hb, hl, hm, hmm, hx, hi⟩
  · simp at hcs
    refine ⟨[], ?_, by simp⟩
    rw [hcs]
    exact lst_mk (s := 1) (vs := []) (fun _ => rfl) rfl (Nat.le_refl _) (by simp) (RdAll.nil w) ⟨rfl, fun h => absurd h (by omega)⟩
  · simp at hcs
    have hrow : ∀ i, i < len → ∃ vr : Value × α, w.cell? (a.add i) = some vr.1 ∧ (f vr.2).rd w vr.1 ∧ Q vr.2 := fun i hil => by
      obtain ⟨cs', hc', ht'⟩ := hi i (by rw [hmm]; split <;> omega)
      obtain ⟨u, rfl⟩ := trod_len he ht'
      obtain ⟨xs, h1, h2⟩ := hin _ _ _ ht'
      rw [hce, Nat.mul_one] at hc'
      obtain ⟨_, hcl, hat⟩ := World.cells?_some hc'
      have h0 := hat 0 (by omega)
      exact ⟨(u, xs), by simpa [Addr.add] using h0, h1, h2⟩
    obtain ⟨vrs, hvl, hv⟩ := list_of _ len hrow
    refine ⟨vrs.map (·.2), ?_, fun r hr => ?_⟩
    · rw [hcs]
      refine lst_mk (s := 1) (vs := vrs.map (·.1)) (fun _ => rfl) (by simp [hvl]) hl hm ⟨by rw [flat_one]; simp, fun i c u hc hu => ?_⟩ ⟨by simp [hvl], fun hp => ?_⟩
      · rw [flat_one, List.getElem?_map, List.getElem?_map] at hc
        rw [List.getElem?_map] at hu
        cases hvi : vrs[i]? with
        | none => rw [hvi] at hu; cases hu
        | some vr =>
          rw [hvi] at hu hc
          injection hu with hu
          injection hc with hc
          subst hu; subst hc
          exact (hv i vr hvi).2.1
      · obtain ⟨b, o, s⟩ := a
        have hv0 : vrs[0]? = some (vrs[0]'(by omega)) := List.getElem?_eq_getElem (by omega)
        have h0 := (hv 0 _ hv0).1
        have hs : s = none := by simpa [Addr.add] using World.cell?_spot h0
        subst hs
        rw [add_off] at h0
        refine ⟨b, o, rfl, World.block_lt_of_cell? w _ h0, fun j hj => ?_⟩
        have hvj : vrs[j]? = some (vrs[j]'(by omega)) := List.getElem?_eq_getElem (by omega)
        have h1 := (hv j _ hvj).1
        rw [add_off] at h1
        rw [h1, List.getElem?_map, hvj]
        rfl
    · obtain ⟨vr, hvr, rfl⟩ := List.mem_map.1 hr
      obtain ⟨i, hi⟩ := List.mem_iff_getElem?.1 hvr
      exact (hv i vr hi).2.2
end
end Go.Proofs.Ythncoohkdmjcaaa
