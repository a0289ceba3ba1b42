/-
  MajorityOf: reference and program; the helper markIntSS.
-/
import Derived.Test.YthncoohkdmjcaaaMat
namespace Go.Proofs.Ythncoohkdmjcaaa
open Go.RowKit
set_option linter.unusedVariables false
set_option linter.unusedSimpArgs false
def cntTo (rows : List (List Int)) (r : List Int) : Nat → Nat
  | 0 => 0
  | k + 1 => cntTo rows r k + if r == rows.getD k [] then 1 else 0
theorem cntTo_le (rows : List (List Int)) (r : List Int) : ∀ k, cntTo rows r k ≤ k
  | 0 => Nat.le_refl _
  | k + 1 => by
    have := cntTo_le rows r k
    unfold cntTo
    split <;> omega
def majAt (rows : List (List Int)) (n i : Nat) : Bool := decide (n < 2 * cntTo rows (rows.getD i []) n)
def maj (rows : List (List Int)) : Bool × List Int :=
  if rows.length ≤ 8 then match (List.range rows.length).find? (majAt rows rows.length) with
    | some i => (true, rows.getD i [])
    | none => (false, [])
  else (false, [])
theorem maj_found {rows : List (List Int)} {n i : Nat} (hl : rows.length = n) (h8 : n ≤ 8) (hi : i < n) (h : majAt rows n i = true) (hno : ∀ j, j < i → majAt rows n j = false) : maj rows = (true, rows.getD i []) := by
  subst hl
  have : (List.range rows.length).find? (majAt rows rows.length) = some i := by
    rw [List.find?_range_eq_some]
    exact ⟨h, by simpa using hi, fun j hj => by rw [hno j hj]; rfl⟩
  simp [maj, h8, this]
theorem maj_none {rows : List (List Int)} {n : Nat} (hl : rows.length = n) (hno : ∀ j, j < n → majAt rows n j = false) : maj rows = (false, []) := by
  subst hl
  have : (List.range rows.length).find? (majAt rows rows.length) = none := by
    rw [List.find?_range_eq_none]
    intro j hj
    rw [hno j hj]; rfl
  unfold maj
  split
  · rw [this]
  · rfl
theorem maj_long {rows : List (List Int)} {n : Nat} (hl : rows.length = n) (h : ¬ n ≤ 8) : maj rows = (false, []) := by
  subst hl
  simp [maj, h]
/-- What MajorityOf hands back. -/
def MajOut (rows : List (List Int)) (w : World) (e : Ending) (w' : World) : Prop :=
  ∃ v, e = .returned (.tuple #[v, .bool (maj rows).1]) ∧ w'.ownsRow w.heap.size 3 1 v (maj rows).2.length ((maj rows).2.map (Value.int .i64)) ∧ w.grownBy w' none
theorem MajOut.none_ {rows : List (List Int)} {w w' : World} {v : Value} (h : maj rows = (false, [])) (ho : w'.ownsRow w.heap.size 3 1 v 0 []) (hg : w.grownBy w' none) : MajOut rows w (.returned (.tuple #[v, .bool false])) w' :=
  ⟨v, by rw [h], by rw [h]; exact ho, hg⟩
theorem MajOut.some_ {rows : List (List Int)} {w w' : World} {v : Value} {r : List Int} (h : maj rows = (true, r)) (ho : w'.ownsRow w.heap.size 3 1 v r.length (r.map (Value.int .i64))) (hg : w.grownBy w' none) : MajOut rows w (.returned (.tuple #[v, .bool true])) w' :=
  ⟨v, by rw [h], by rw [h]; exact ho, hg⟩
set_option maxHeartbeats 1000000 in
theorem implMajorityOf_c (A : Option Addr) (n c : Nat) (rows : List (List Int)) (w : World) (hx : Mat w A n rows) (hn : n ≤ 4611686018427387903) (hs : ∀ k, (rows.getD k []).length ≤ 1099511627776) :
    Calls Try.prog 46 #[.slice A n c] w (MajOut rows w) := by
  have LX := Lib.hid (mat_len hx)
  by_cases h8 : n ≤ 8
  · go_enter Try.func46, Try.ntmps46
    go_wp2_with fail
    go_loopw [14] (fun i wr => ∃ k : Nat, k ≤ n ∧ i = .int .i64 k ∧ Hid (∀ j, j < k → majAt rows n j = false) ∧ Hid (w.grownBy wr none)) (fun i _ => n - (intOf i).toNat)
    case atStart => exact ⟨0, Nat.zero_le _, rfl, fun j hj => by omega, gbR _ _⟩
    case round =>
      obtain ⟨k, hk, rfl, hno, hg⟩ := hrel
      by_cases hlt : k < n
      · obtain ⟨b, o, B, c1, rfl, hb, q1, q2, q3, q4⟩ := mat_at (RdC.grow hx hg.out) hlt
        have i1 : (k : Int) < (n : Int) := by omega
        have hsk := Lib.hid (hs k)
        have HR : Hid (majAt rows n k = decide (n < 2 * cntTo rows (rows.getD k []) n)) := rfl
        have HF := Lib.hid (fun h => maj_found LX.out h8 hlt h hno.out)
        generalize rows.getD k [] = r at *
        have Q2 := Lib.hid q2
        clear q2 q3 q4
        generalize hrl : r.length = rl at *
        have HRL := Lib.hid hrl
        clear hrl
        go_wp2_with fail
        obtain ⟨wo, rfl⟩ : ∃ wo : World, wo = wr := ⟨_, rfl⟩
        go_loopw [6, 20] (fun s i wi => ∃ j : Nat, j ≤ n ∧ i = .int .i64 j ∧ s = .int .i64 (cntTo rows r j) ∧ Hid (wo.grownBy wi none)) (fun _ i _ => n - (intOf i).toNat)
        case atStart => exact ⟨0, Nat.zero_le _, rfl, rfl, gbR _ _⟩
        case round =>
          obtain ⟨j, hj, rfl, rfl, hgi⟩ := hrel
          have hcl := cntTo_le rows r j
          by_cases hlt2 : j < n
          · obtain ⟨b', o', C, c2, e', hb', r1, r2, r3, r4⟩ := mat_at (RdC.grow hx (gbT hg.out hgi.out)) hlt2
            injection e' with e'
            injection e' with e1 e2
            subst e1; subst e2
            have i2 : (j : Int) < (n : Int) := by omega
            have hsj := Lib.hid (hs j)
            have HS : Hid (cntTo rows r (j + 1) = cntTo rows r j + if r == rows.getD j [] then 1 else 0) := rfl
            generalize cntTo rows r j = m at *
            generalize rows.getD j [] = x at *
            have R2 := Lib.hid r2
            clear r2 r3 r4
            generalize hxl : x.length = xl at *
            have HXL := Lib.hid hxl
            clear hxl
            go_wp2_with fail
            refine (same_c B C rl xl c1 c2 r x _ (Ints.grow Q2.out hgi.out) R2.out (by have := hsk.out; omega) (by have := hsj.out; omega)).mono ?_
            rintro e w2 ⟨rfl, q, rfl⟩
            cases hrx : (r == x) with
            | true =>
              rw [hrx] at HS
              clear hrx
              go_wp2_with fail
              go_roundw
              case rel => exact ⟨j + 1, by omega, by go_num, by rw [HS.out]; go_num, gbDN hgi.out _⟩
              case measure => simp [intOf]; omega
            | false =>
              rw [hrx] at HS
              clear hrx
              go_wp2_with fail
              go_roundw
              case rel => exact ⟨j + 1, by omega, by go_num, by rw [HS.out]; go_num, gbDN hgi.out _⟩
              case measure => simp [intOf]; omega
          · have hjn : j = n := by omega
            subst hjn
            generalize cntTo rows r j = m at *
            by_cases hm : j < 2 * m
            · have hm' : (j : Int) < 2 * (m : Int) := by omega
              have HM := Lib.hid (HF.out (by rw [HR.out]; simpa using hm))
              go_wp2_with fail
              refine (ints_c B rl c1 r _ (Ints.grow Q2.out hgi.out) hsk.out).mono ?_
              rintro e w2 ⟨v, rfl, o2, h2⟩
              have O2 := Lib.hid o2
              have G2 := Lib.hid (gbT (gbT hg.out hgi.out) h2)
              have L := (gbT hg.out hgi.out).size
              clear o2 h2
              go_wp2_with fail
              go_ret2
              exact MajOut.some_ HM.out (by rw [HRL.out]; exact own_base O2.out L) G2.out
            · have hm' : ¬ (j : Int) < 2 * (m : Int) := by omega
              have HM : Hid (majAt rows j k = false) := by unfold Hid; rw [HR.out]; simp; omega
              go_wp2_with fail
              go_roundw
              case rel => exact ⟨k + 1, by omega, by go_num, fun i hi => by
                by_cases e : i = k
                · subst e; exact HM.out
                · exact hno.out i (by omega), gbT hg.out hgi.out⟩
              case measure => simp [intOf]; omega
      · have hkn : k = n := by omega
        subst hkn
        have HM := Lib.hid (maj_none LX.out hno.out)
        go_wp2_with fail
        go_ret2
        exact MajOut.none_ HM.out (World.ownsRow_nil _ _ _ _) hg.out
  · have HM := Lib.hid (maj_long LX.out h8)
    go_enter Try.func46, Try.ntmps46
    go_wp2_with fail
    go_ret2
    exact MajOut.none_ HM.out (World.ownsRow_nil _ _ _ _) (gbR _ _)
end Go.Proofs.Ythncoohkdmjcaaa
