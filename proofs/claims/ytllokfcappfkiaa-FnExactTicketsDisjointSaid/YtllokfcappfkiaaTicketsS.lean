/-
  TicketsDisjoint in the reference.
-/
import Derived.Test.YtllokfcappfkiaaTickets
import Derived.Test.YtllokfcappfkiaaBools
namespace Go.Proofs.Ytllokfcappfkiaa
open Go.RowKit
set_option linter.unusedVariables false
theorem tkApart_iff {ts : List Tk} {k : Nat} (hin : ∀ j, j ≤ k → tkIn (ts.getD j (0, 0)) = true) : tkApart ts (k + 1) ↔ tkApart ts k ∧ ∀ l : Nat, (l : Int) < (ts.getD k (0, 0)).2 → ¬ tkCov ts k ((ts.getD k (0, 0)).1 + l) := by
  rw [← tk_free hin]
  exact ⟨fun h => ⟨fun i j hj hi => h i j hj (by omega), fun j hj => h k j hj (by omega)⟩, fun h => tkApart_succ h.1 h.2⟩
theorem tkApart_mono {ts : List Tk} {k n : Nat} (h : ¬ tkApart ts k) (hk : k ≤ n) (hl : ts.length = n) : tkB ts = false := by
  have : ¬ tkApart ts ts.length := fun ha => h fun i j hj hi => ha i j hj (by omega)
  simp [tkB, this]
theorem rep_len {α : Type} (d : α) (n : Nat) : (List.replicate n d).length = n := List.length_replicate
theorem rep_get (n x : Nat) : (List.replicate n false).getD x false = false := by
  rw [List.getD_eq_getElem?_getD, List.getElem?_replicate]; split <;> rfl
theorem rep_own {w : World} {b : Nat} {e : TypeId} {v : Value} {n m : Nat} (h : w.ownsRow b e 1 v m (List.replicate n (.bool false))) : w.ownsRow b e 1 v m ((List.replicate n false).map Value.bool) := by
  rw [List.map_replicate]; exact h
theorem bool_at {us : List Bool} {m i : Nat} (hl : us.length = m) (hi : i < m) : (us.map Value.bool)[i]? = some (.bool (us.getD i false)) := by
  rw [List.getElem?_map, List.getD_eq_getElem?_getD, List.getElem?_eq_getElem (by omega)]; rfl
theorem set_getD {us : List Bool} {i x : Nat} (hi : i < us.length) : (us.set i true).getD x false = true ↔ us.getD x false = true ∨ x = i := by
  rw [List.getD_eq_getElem?_getD, List.getD_eq_getElem?_getD, List.getElem?_set]
  by_cases e : i = x
  · subst e; simp [hi]
  · rw [if_neg e]; simp [Ne.symm e]
theorem ok_step {ts : List Tk} {k X q : Nat} {v u : Bool} (hX : (ts.getD k (0, 0)).1 = X) (hv : v = true ↔ tkApart ts k ∧ ∀ l : Nat, l < q → ¬ tkCov ts k (X + l)) (hu : u = true ↔ tkUsed ts k q ((X + q : Nat) : Int)) :
    (v && !u) = true ↔ tkApart ts k ∧ ∀ l : Nat, l < q + 1 → ¬ tkCov ts k (X + l) := by
  have hu' : u = true ↔ tkCov ts k ((X : Int) + q) := by
    rw [hu]; unfold tkUsed; rw [hX]
    constructor
    · rintro (h | h)
      · rwa [Int.natCast_add] at h
      · omega
    · intro h; left; rwa [Int.natCast_add]
  rw [Bool.and_eq_true, Bool.not_eq_true', ← Bool.not_eq_true, hv, hu']
  constructor
  · rintro ⟨⟨h1, h2⟩, h3⟩
    refine ⟨h1, fun l hl => ?_⟩
    by_cases e : l = q
    · subst e; exact h3
    · exact h2 l (by omega)
  · rintro ⟨h1, h2⟩
    exact ⟨⟨h1, fun l hl => h2 l (by omega)⟩, h2 q (by omega)⟩
set_option maxHeartbeats 1000000 in
theorem specTicketsDisjoint_c (A : Option Addr) (n c : Nat) (ts : List Tk) (w : World) (hx : Tks w A n ts) (hn : n ≤ 4611686018427387903) :
    Calls Try.prog 68 #[.slice A n c] w fun e w' => e = .returned (.bool (tkB ts)) ∧ w.grownBy w' none := by
  have LX := Lib.hid hx.len
  by_cases h1000 : n ≤ 1000
  · have d0 : decide ((n : Int) ≤ 1000) = true := by simp; omega
    go_enter Try.func68, Try.ntmps68
    go_wp2_with (at_make; refine wp_makeN _ el_bool rfl _ _ rfl 2000 rfl rfl (by omega) (by unfold maxLen; omega) ?_; intro w1 hown1 hg1; rw [show (Value.bool false).cells = #[.bool false] from rfl, made_one] at hown1)
    have O1 := Lib.hid hown1
    have G1 := Lib.hid hg1
    clear hown1 hg1
    go_loopw [4, 5] (fun ok i wr => ∃ (v : Bool) (k : Nat) (us : List Bool), k ≤ n ∧ ok = .bool v ∧ i = .int .i64 k ∧ Hid (v = true ↔ tkApart ts k) ∧ Hid (∀ j, j < k → tkIn (ts.getD j (0, 0)) = true) ∧ Hid (us.length = 2000) ∧ Hid (wr.ownsRow w.heap.size 4 1 (.slice (some ⟨w.heap.size, 0, none⟩) 2000 2000) 2000 (us.map Value.bool)) ∧ Hid (∀ x : Nat, x < 2000 → (us.getD x false = true ↔ tkCov ts k x)) ∧ Hid (w.grownBy wr none)) (fun _ i _ => n - (intOf i).toNat)
    case atStart => exact ⟨true, 0, List.replicate 2000 false, Nat.zero_le _, by first | rfl | rw [d0], rfl, ⟨fun _ i j h1 h2 => by omega, fun _ => rfl⟩, fun j hj => by omega, rep_len false 2000, rep_own O1.out, fun x hx => ⟨(fun h => by rw [rep_get] at h; cases h), fun ⟨j, hj, _⟩ => by omega⟩, G1.out⟩
    case round =>
      obtain ⟨v, k, us, hk, rfl, rfl, hv, hall, hul, hown, hus, hg⟩ := hrel
      cases v with
      | false =>
        have hlt := Nat.lt_or_ge k n
        have hf : Hid (tkB ts = false) := tkApart_mono (fun h => by have := hv.out.2 h; cases this) hk LX.out
        by_cases hlt : k < n
        all_goals
          have i1 : decide ((k : Int) < (n : Int)) = decide ((k : Int) < (n : Int)) := rfl
          clear i1
          go_wp2_with fail
          go_ret
          exact ⟨retB hf.out.symm, hg.out⟩
      | true =>
        by_cases hlt : k < n
        · obtain ⟨b, o, rfl, hb, q1, q2⟩ := tks_at (FL.grow hx hg.out) hlt
          have i1 : (k : Int) < (n : Int) := by omega
          have i2 : decide ((k : Int) < (n : Int)) = true := by simp; omega
          generalize hz : ts.getD k (0, 0) = z at *
          have HZ := Lib.hid hz
          clear hz
          obtain ⟨x, y⟩ := z
          simp only at q1 q2
          by_cases hin : tkIn (x, y) = true
          · have HI := Lib.hid hin
            simp [tkIn] at hin
            obtain ⟨⟨⟨g0, g1⟩, g2⟩, g3⟩ := hin
            obtain ⟨X, rfl⟩ := Int.eq_ofNat_of_zero_le g0
            obtain ⟨Y, rfl⟩ := Int.eq_ofNat_of_zero_le g2
            have d1 : decide ((X : Int) ≤ 1000) = true := by simp; omega
            have d2 : decide (0 ≤ (Y : Int)) = true := by simp
            have d3 : decide ((Y : Int) ≤ 1000) = true := by simp; omega
            have d4 : decide (0 ≤ (X : Int)) = true := by simp
            go_wp2_with go_in
            have hdone : Hid (∀ j, j ≤ k → tkIn (ts.getD j (0, 0)) = true) := fun j hj => by
              by_cases e : j = k
              · subst e; rw [HZ.out]; exact HI.out
              · exact hall.out j (by omega)
            obtain ⟨wo, rfl⟩ : ∃ wo : World, wo = wr := ⟨_, rfl⟩
            go_loopw [4, 6] (fun ok i wi => ∃ (v : Bool) (q : Nat) (us : List Bool), q ≤ Y ∧ ok = .bool v ∧ i = .int .i64 q ∧ Hid (v = true ↔ tkApart ts k ∧ ∀ l : Nat, l < q → ¬ tkCov ts k (X + l)) ∧ Hid (us.length = 2000) ∧ Hid (wi.ownsRow w.heap.size 4 1 (.slice (some ⟨w.heap.size, 0, none⟩) 2000 2000) 2000 (us.map Value.bool)) ∧ Hid (∀ x : Nat, x < 2000 → (us.getD x false = true ↔ tkUsed ts k q x)) ∧ Hid (w.grownBy wi none)) (fun _ i _ => Y - (intOf i).toNat)
            case atStart => exact ⟨true, 0, us, Nat.zero_le _, rfl, rfl, ⟨fun _ => ⟨hv.out.1 (by first | rfl | trivial), fun l hl => by omega⟩, fun _ => rfl⟩, hul.out, hown.out, fun x hx => (hus.out x hx).trans (tkUsed_zero ts k x).symm, hg.out⟩
            case round =>
              obtain ⟨v, q, us', hq, rfl, rfl, hv', hul', hown', hus', hg'⟩ := hrel
              obtain ⟨b', o', e', _, r1, r2⟩ := tks_at (FL.grow hx hg'.out) hlt
              injection e' with e'
              injection e' with e1 e2
              subst e1; subst e2
              rw [HZ.out] at r1 r2
              simp only at r1 r2
              by_cases hlt2 : q < Y
              · have hXq : X + q < 2000 := by omega
                have hcell := hown'.out.cellAt (X + q) (by omega)
                have hfr := hown'.out.frozenAt (X + q)
                have hst := hown'.out.stored (X + q) (.bool true)
                rw [← List.map_set] at hst
                rw [bool_at hul'.out hXq] at hcell
                have Hst := Lib.hid hst
                have HU := Lib.hid (hus'.out (X + q) hXq)
                clear hst
                generalize us'.getD (X + q) false = u at hcell HU
                have i3 : (q : Int) < (Y : Int) := by omega
                have HV := Lib.hid (ok_step (by rw [HZ.out]) hv'.out HU.out)
                have hset : Hid (∀ x : Nat, x < 2000 → ((us'.set (X + q) true).getD x false = true ↔ tkUsed ts k (q + 1 : Nat) x)) := fun x' hx' => by
                  rw [set_getD (by have := hul'.out; omega), hus'.out x' hx', Int.natCast_add, show ((1 : Nat) : Int) = 1 from rfl, tkUsed_succ ts k q x' (by omega), HZ.out]
                  constructor
                  · rintro (h | h)
                    · exact .inl h
                    · exact .inr (by simp; omega)
                  · rintro (h | h)
                    · exact .inl h
                    · exact .inr (by simp at h; omega)
                clear HU
                cases v
                all_goals cases u
                all_goals
                  go_wp2_with fail
                  go_roundw
                  case rel => exact ⟨_, q + 1, us'.set (X + q) true, by omega, rfl, by go_num, HV.out, by have := hul'.out; simp [Hid, this], Hst.out.1, hset.out, gbN hg'.out Hst.out.2 (fun g hg => by injection hg with hg; omega)⟩
                  case measure => simp [intOf]; omega
              · have hqY : q = Y := by omega
                subst hqY
                go_wp2_with fail
                go_roundw
                case rel => exact ⟨v, k + 1, us', by omega, rfl, by go_num, hv'.out.trans ((tkApart_iff hdone.out).trans (by rw [HZ.out]; exact ⟨fun h => ⟨h.1, fun l hl => h.2 l (by simp; omega)⟩, fun h => ⟨h.1, fun l hl => h.2 l (by simp at hl; omega)⟩⟩)).symm, fun j hj => hdone.out j (by omega), hul'.out, hown'.out, fun x hx => (hus'.out x hx).trans (tkUsed_next ts k x _ (by rw [HZ.out])), hg'.out⟩
                case measure => simp [intOf]; omega
          · have HI : Hid (tkIn (ts.getD k (0, 0)) = false) := by unfold Hid; rw [HZ.out]; simpa using hin
            have hno : x < 0 ∨ 1000 < x ∨ y < 0 ∨ 1000 < y := by simp [tkIn] at hin; omega
            clear hin
            go_wp2_with go_in
            all_goals first
              | (go_ret
                 exact ⟨retB (tkB_in LX.out hlt HI.out).symm, hg.out⟩)
              | (exfalso; rename_i hh; simp at hh; omega)
        · have hkn : k = n := by omega
          subst hkn
          have i2 : decide ((k : Int) < (k : Int)) = false := by simp
          go_wp2_with fail
          go_ret
          exact ⟨retB (tkB_yes LX.out h1000 hall.out (hv.out.1 (by first | rfl | trivial))).symm, hg.out⟩
  · have d0 : decide ((n : Int) ≤ 1000) = false := by simp; omega
    go_enter Try.func68, Try.ntmps68
    go_wp2_with (at_make; refine wp_makeN _ el_bool rfl _ _ rfl 2000 rfl rfl (by omega) (by unfold maxLen; omega) ?_; intro w1 hown1 hg1; clear hown1)
    refine wp_loop_rounds 1 ?_
    rw [rounds_succ]
    go_wp2_with fail
    go_ret
    exact ⟨retB (tkB_long LX.out h1000).symm, hg1⟩
end Go.Proofs.Ytllokfcappfkiaa
