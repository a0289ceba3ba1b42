/-
  Tickets: TicketsDisjoint in the reference and the program.
-/
import Derived.Test.YthncoohkdmjcaaaFlat
namespace Go.Proofs.Ythncoohkdmjcaaa
open Go.RowKit
set_option linter.unusedVariables false
/-- Tickets: where from, how many. -/
abbrev Tk := Int × Int
def tkIn (t : Tk) : Bool := decide (0 ≤ t.1) && decide (t.1 ≤ 1000) && decide (0 ≤ t.2) && decide (t.2 ≤ 1000)
def tkHit (t x : Tk) : Bool := decide (0 < t.2) && decide (0 < x.2) && decide (t.1 < x.1 + x.2) && decide (x.1 < t.1 + t.2)
/-- No two of the first k meet. -/
def tkApart (ts : List Tk) (k : Nat) : Prop := ∀ i j, j < i → i < k → tkHit (ts.getD i (0, 0)) (ts.getD j (0, 0)) = false
instance (ts : List Tk) (k : Nat) : Decidable (tkApart ts k) := by
  unfold tkApart
  exact decidable_of_iff (∀ i, i < k → ∀ j, j < i → tkHit (ts.getD i (0, 0)) (ts.getD j (0, 0)) = false) ⟨fun h i j hj hi => h i hi j hj, fun h i hi j hj => h i j hj hi⟩
def tkB (ts : List Tk) : Bool := decide (ts.length ≤ 1000) && ts.all tkIn && decide (tkApart ts ts.length)
def tkCov (ts : List Tk) (i : Nat) (x : Int) : Prop := ∃ j, j < i ∧ (ts.getD j (0, 0)).1 ≤ x ∧ x < (ts.getD j (0, 0)).1 + (ts.getD j (0, 0)).2
theorem tkHit_iff (t x : Tk) (ht : tkIn t = true) (hx : tkIn x = true) : tkHit t x = true ↔ ∃ k : Nat, (k : Int) < t.2 ∧ x.1 ≤ t.1 + k ∧ t.1 + k < x.1 + x.2 := by
  simp [tkHit, tkIn] at *
  constructor
  · intro ⟨⟨⟨h1, h2⟩, h3⟩, h4⟩
    by_cases h : t.1 ≤ x.1
    · exact ⟨(x.1 - t.1).toNat, by omega, by omega, by omega⟩
    · exact ⟨0, by omega, by omega, by omega⟩
  · intro ⟨k, h1, h2, h3⟩
    omega
theorem tkApart_succ {ts : List Tk} {i : Nat} (h : tkApart ts i) (hn : ∀ j, j < i → tkHit (ts.getD i (0, 0)) (ts.getD j (0, 0)) = false) : tkApart ts (i + 1) := fun a b hb ha => by
  by_cases e : a = i
  · subst e; exact hn b hb
  · exact h a b hb (by omega)
theorem tkB_yes {ts : List Tk} {n : Nat} (hl : ts.length = n) (h1 : n ≤ 1000) (h2 : ∀ j, j < n → tkIn (ts.getD j (0, 0)) = true) (h3 : tkApart ts n) : tkB ts = true := by
  subst hl
  simp only [tkB, Bool.and_eq_true, decide_eq_true_eq, List.all_eq_true]
  refine ⟨⟨h1, fun t ht => ?_⟩, h3⟩
  obtain ⟨j, hj, rfl⟩ := List.getElem_of_mem ht
  have := h2 j hj
  simpa [List.getD_eq_getElem?_getD, List.getElem?_eq_getElem hj] using this
theorem tkB_long {ts : List Tk} {n : Nat} (hl : ts.length = n) (h1 : ¬ n ≤ 1000) : tkB ts = false := by
  subst hl; simp [tkB, h1]
theorem tkB_in {ts : List Tk} {n : Nat} (hl : ts.length = n) {j : Nat} (hj : j < n) (h : tkIn (ts.getD j (0, 0)) = false) : tkB ts = false := by
  subst hl
  have : ts.all tkIn = false := by
    rw [List.all_eq_false]
    refine ⟨ts[j], List.getElem_mem hj, ?_⟩
    simpa [List.getD_eq_getElem?_getD, List.getElem?_eq_getElem hj] using h
  simp [tkB, this]
theorem tkB_hit {ts : List Tk} {n : Nat} (hl : ts.length = n) {i j : Nat} (hj : j < i) (hi : i < n) (h : tkHit (ts.getD i (0, 0)) (ts.getD j (0, 0)) = true) : tkB ts = false := by
  subst hl
  have : ¬ tkApart ts ts.length := fun ha => by have := ha i j hj hi; rw [h] at this; cases this
  simp [tkB, this]
/-- What the reference's table says: place x is taken by one of the first i, or is one of the first k places of the ticket i. -/
def tkUsed (ts : List Tk) (i : Nat) (k : Int) (x : Int) : Prop := tkCov ts i x ∨ ((ts.getD i (0, 0)).1 ≤ x ∧ x < (ts.getD i (0, 0)).1 + k)
theorem tkUsed_next (ts : List Tk) (i : Nat) (x : Int) (k : Int) (hk : k = (ts.getD i (0, 0)).2) : tkUsed ts i k x ↔ tkCov ts (i + 1) x := by
  subst hk
  constructor
  · rintro (⟨j, h1, h2⟩ | h)
    · exact ⟨j, by omega, h2⟩
    · exact ⟨i, by omega, h⟩
  · intro ⟨j, h1, h2⟩
    by_cases e : j = i
    · subst e; exact .inr h2
    · exact .inl ⟨j, by omega, h2⟩
theorem tkUsed_zero (ts : List Tk) (i : Nat) (x : Int) : tkUsed ts i 0 x ↔ tkCov ts i x := by
  constructor
  · rintro (h | h)
    · exact h
    · omega
  · exact .inl
theorem tkUsed_succ (ts : List Tk) (i : Nat) (k : Int) (x : Int) (hk : 0 ≤ k) : tkUsed ts i (k + 1) x ↔ tkUsed ts i k x ∨ x = (ts.getD i (0, 0)).1 + k := by
  unfold tkUsed
  constructor
  · rintro (h | h)
    · exact .inl (.inl h)
    · by_cases e : x = (ts.getD i (0, 0)).1 + k
      · exact .inr e
      · exact .inl (.inr (by omega))
  · rintro ((h | h) | h)
    · exact .inl h
    · exact .inr (by omega)
    · exact .inr (by omega)
/-- Ticket i meets none before it: none of its places is taken. -/
theorem tk_free {ts : List Tk} {i : Nat} (hin : ∀ j, j ≤ i → tkIn (ts.getD j (0, 0)) = true) : (∀ j, j < i → tkHit (ts.getD i (0, 0)) (ts.getD j (0, 0)) = false) ↔ ∀ k : Nat, (k : Int) < (ts.getD i (0, 0)).2 → ¬ tkCov ts i ((ts.getD i (0, 0)).1 + k) := by
  constructor
  · rintro h k hk ⟨j, hj, h1, h2⟩
    have := (tkHit_iff _ _ (hin i (Nat.le_refl _)) (hin j (by omega))).2 ⟨k, hk, h1, h2⟩
    rw [h j hj] at this; cases this
  · intro h j hj
    cases e : tkHit (ts.getD i (0, 0)) (ts.getD j (0, 0)) with
    | false => rfl
    | true =>
      obtain ⟨k, h1, h2, h3⟩ := (tkHit_iff _ _ (hin i (Nat.le_refl _)) (hin j (by omega))).1 e
      exact absurd ⟨j, hj, h2, h3⟩ (h k h1)

abbrev Tks (w : World) (A : Option Addr) (n : Nat) (ts : List Tk) : Prop := FL c2 2 w A n ts
theorem tks_at {w : World} {A : Option Addr} {n : Nat} {ts : List Tk} (h : Tks w A n ts) {k : Nat} (hk : k < n) :
    ∃ b o, A = some ⟨b, o, none⟩ ∧ b < w.heap.size ∧ w.cell? ⟨b, o + k * 2, none⟩ = some (.int .i64 (ts.getD k (0, 0)).1) ∧ w.cell? ⟨b, o + k * 2 + 1, none⟩ = some (.int .i64 (ts.getD k (0, 0)).2) := by
  obtain ⟨b, o, x, rfl, hb, hx, hc⟩ := h.cell c2_len hk (by omega)
  refine ⟨b, o, rfl, hb, ?_, ?_⟩
  · have := hc 0 (by omega)
    rw [Nat.add_zero] at this
    rw [this, List.getD_eq_getElem?_getD, hx]; rfl
  · have := hc 1 (by omega)
    rw [← Nat.add_assoc] at this
    rw [this, List.getD_eq_getElem?_getD, hx]; rfl
set_option maxHeartbeats 1000000 in
theorem implTicketsDisjoint_c (A : Option Addr) (n c : Nat) (ts : List Tk) (w : World) (hx : Tks w A n ts) (hn : n ≤ 4611686018427387903) (hc : n ≤ c) (hcm : c ≤ 9223372036854775807) :
    Calls Try.prog 45 #[.slice A n c] w fun e w' => e = .returned (.bool (tkB ts)) ∧ w.grownBy w' none := by
  have LX := Lib.hid hx.len
  by_cases h1000 : n ≤ 1000
  · go_enter Try.func45, Try.ntmps45
    go_wp2_with fail
    go_loopw [14] (fun i wr => ∃ k : Nat, k ≤ n ∧ i = .int .i64 k ∧ Hid (∀ j, j < k → tkIn (ts.getD j (0, 0)) = true) ∧ Hid (w.grownBy wr none)) (fun i _ => n - (intOf i).toNat)
    case atStart => exact ⟨0, Nat.zero_le _, rfl, fun j hj => by omega, gbR _ _⟩
    case round =>
      obtain ⟨k, hk, rfl, hall, hg⟩ := hrel
      by_cases hlt : k < n
      · obtain ⟨b, o, rfl, hb, q1, q2⟩ := tks_at (FL.grow hx hg.out) hlt
        have i1 : (k : Int) < (n : Int) := by omega
        generalize hz : ts.getD k (0, 0) = z at *
        have HZ := Lib.hid hz
        clear hz
        obtain ⟨x, y⟩ := z
        simp only at q1 q2
        by_cases hin : tkIn (x, y) = true
        · have HI := Lib.hid hin
          simp [tkIn] at hin
          obtain ⟨⟨⟨g0, g1⟩, g2⟩, g3⟩ := hin
          have d0 : decide (0 ≤ x) = true := by simp; omega
          have d1 : decide (x ≤ 1000) = true := by simp; omega
          have d2 : decide (0 ≤ y) = true := by simp; omega
          have d3 : decide (y ≤ 1000) = true := by simp; omega
          go_wp2_with go_in
          go_roundw
          case rel => exact ⟨k + 1, by omega, by go_num, fun j hj => by
            by_cases e : j = k
            · subst e; rw [HZ.out]; exact HI.out
            · exact hall.out j (by omega), gbA hg.out _⟩
          case measure => simp [intOf]; omega
        · have HI : Hid (tkIn (ts.getD k (0, 0)) = false) := by unfold Hid; rw [HZ.out]; simpa using hin
          have hno : x < 0 ∨ 1000 < x ∨ y < 0 ∨ 1000 < y := by simp [tkIn] at hin; omega
          clear hin
          go_wp2_with go_in
          all_goals first
            | (go_ret
               exact ⟨retB (tkB_in LX.out hlt HI.out).symm, gbA hg.out _⟩)
            | (exfalso; rename_i hh; simp at hh; omega)
      · have hkn : k = n := by omega
        subst hkn
        go_wp2_with fail
        go_loopw [31] (fun i wo => ∃ k' : Nat, k' ≤ k ∧ i = .int .i64 k' ∧ Hid (tkApart ts k') ∧ Hid (w.grownBy wo none)) (fun i _ => k - (intOf i).toNat)
        case atStart => exact ⟨0, Nat.zero_le _, rfl, fun i j h1 h2 => by omega, hg.out⟩
        case round =>
          obtain ⟨wo, rfl⟩ : ∃ wo : World, wo = wr := ⟨_, rfl⟩
          obtain ⟨i, hi, rfl, hap, hg⟩ := hrel
          by_cases hlt2 : i < k
          · obtain ⟨b, o, rfl, hb, q1, q2⟩ := tks_at (FL.grow hx hg.out) hlt2
            have i1 : (i : Int) < (k : Int) := by omega
            have hin := hall.out i hlt2
            generalize hz : ts.getD i (0, 0) = z at *
            have HZ := Lib.hid hz
            clear hz
            obtain ⟨x, y⟩ := z
            have HI := Lib.hid hin
            simp [tkIn] at hin
            obtain ⟨⟨⟨g0, g1⟩, g2⟩, g3⟩ := hin
            simp only at q1 q2
            go_wp2_with fail
            have B6 := Lib.hid (Blk.new wo 59 #[.int .i64 x, .int .i64 y])
            have G6 := Lib.hid (gbA hg.out (.cells #[.int .i64 x, .int .i64 y] 59))
            go_loopw [40] (fun j wi => ∃ j' : Nat, j' ≤ i ∧ j = .int .i64 j' ∧ Hid (∀ l, l < j' → tkHit (ts.getD i (0, 0)) (ts.getD l (0, 0)) = false) ∧ Hid (Blk wi wo.heap.size 59 #[.int .i64 x, .int .i64 y]) ∧ Hid (w.grownBy wi none)) (fun j _ => i - (intOf j).toNat)
            case atStart => exact ⟨0, Nat.zero_le _, rfl, fun l h => by omega, B6.out, G6.out⟩
            case round =>
              obtain ⟨j, hj, rfl, hno, hB, hgi⟩ := hrel
              by_cases hlt3 : j < i
              · obtain ⟨b', o', e', hb', q3, q4⟩ := tks_at (FL.grow hx hgi.out) (show j < k by omega)
                injection e' with e'
                injection e' with e1 e2
                subst e1; subst e2
                have c0 := hB.out.cell 0
                have c1 := hB.out.cell 1
                simp at c0 c1
                have k0 := fun o => kA c0 o
                have k1 := fun o => kA c1 o
                have hin2 := hall.out j (by omega)
                generalize hz : ts.getD j (0, 0) = z2 at *
                have HZ2 := Lib.hid hz
                clear hz
                obtain ⟨x2, y2⟩ := z2
                have HI2 := Lib.hid hin2
                simp [tkIn] at hin2
                obtain ⟨⟨⟨m0, m1⟩, m2⟩, m3⟩ := hin2
                simp only at q3 q4
                have j1 : (j : Int) < (i : Int) := by omega
                by_cases hh : tkHit (x, y) (x2, y2) = true
                · have HH := Lib.hid hh
                  simp [tkHit] at hh
                  obtain ⟨⟨⟨t1, t2⟩, t3⟩, t4⟩ := hh
                  have d1 : decide (0 < y) = true := by simp; omega
                  have d2 : decide (0 < y2) = true := by simp; omega
                  have d3 : decide (x < x2 + y2) = true := by simp; omega
                  have d4 : decide (x2 < x + y) = true := by simp; omega
                  go_wp2_with fail
                  go_ret
                  exact ⟨retB (tkB_hit LX.out hlt3 hlt2 (by rw [HZ.out, HZ2.out]; exact HH.out)).symm, gbA hgi.out _⟩
                · have HH := Lib.hid hh
                  have hh2 : ¬ (0 < y ∧ 0 < y2 ∧ x < x2 + y2 ∧ x2 < x + y) := fun ⟨a, b, c, d⟩ => hh (by simp [tkHit]; omega)
                  have HB' := Lib.hid (hB.out.grow (gbA (gbR _ none) (.cells #[.int .i64 x2, .int .i64 y2] 59)))
                  clear hh
                  by_cases t1 : 0 < y
                  · by_cases t2 : 0 < y2
                    · by_cases t3 : x < x2 + y2
                      · have t4 : ¬ x2 < x + y := fun h => hh2 ⟨t1, t2, t3, h⟩
                        have d1 : decide (0 < y) = true := by simp; omega
                        have d2 : decide (0 < y2) = true := by simp; omega
                        have d3 : decide (x < x2 + y2) = true := by simp; omega
                        have d4 : decide (x2 < x + y) = false := by simp; omega
                        clear hh2
                        go_wp2_with fail
                        go_roundw
                        case rel => exact ⟨j + 1, by omega, by go_num, fun l hl => by
                          by_cases e : l = j
                          · subst e; rw [HZ.out, HZ2.out]; simpa using HH.out
                          · exact hno.out l (by omega), HB'.out, gbA hgi.out _⟩
                        case measure => simp [intOf]; omega
                      · have d1 : decide (0 < y) = true := by simp; omega
                        have d2 : decide (0 < y2) = true := by simp; omega
                        have d3 : decide (x < x2 + y2) = false := by simp; omega
                        clear hh2
                        go_wp2_with fail
                        go_roundw
                        case rel => exact ⟨j + 1, by omega, by go_num, fun l hl => by
                          by_cases e : l = j
                          · subst e; rw [HZ.out, HZ2.out]; simpa using HH.out
                          · exact hno.out l (by omega), HB'.out, gbA hgi.out _⟩
                        case measure => simp [intOf]; omega
                    · have d1 : decide (0 < y) = true := by simp; omega
                      have d2 : decide (0 < y2) = false := by simp; omega
                      clear hh2
                      go_wp2_with fail
                      go_roundw
                      case rel => exact ⟨j + 1, by omega, by go_num, fun l hl => by
                        by_cases e : l = j
                        · subst e; rw [HZ.out, HZ2.out]; simpa using HH.out
                        · exact hno.out l (by omega), HB'.out, gbA hgi.out _⟩
                      case measure => simp [intOf]; omega
                  · have d1 : decide (0 < y) = false := by simp; omega
                    clear hh2
                    go_wp2_with fail
                    go_roundw
                    case rel => exact ⟨j + 1, by omega, by go_num, fun l hl => by
                      by_cases e : l = j
                      · subst e; rw [HZ.out, HZ2.out]; simpa using HH.out
                      · exact hno.out l (by omega), HB'.out, gbA hgi.out _⟩
                    case measure => simp [intOf]; omega
              · have hji : j = i := by omega
                subst hji
                go_wp2_with fail
                go_roundw
                case rel => exact ⟨j + 1, by omega, by go_num, tkApart_succ hap.out hno.out, hgi.out⟩
                case measure => simp [intOf]; omega
          · have hik : i = k := by omega
            subst hik
            go_wp2_with fail
            go_ret
            exact ⟨retB (tkB_yes LX.out h1000 hall.out hap.out).symm, hg.out⟩
  · go_enter Try.func45, Try.ntmps45
    go_wp2_with fail
    go_ret
    exact ⟨retB (tkB_long LX.out h1000).symm, gbR _ _⟩
end Go.Proofs.Ythncoohkdmjcaaa
