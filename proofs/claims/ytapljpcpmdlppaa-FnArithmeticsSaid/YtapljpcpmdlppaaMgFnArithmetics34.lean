/-
  EvalArith: reference and program.
-/
import Derived.Test.YtapljpcpmdlppaaMgFnArithmetics31
import Derived.Test.YtapljpcpmdlppaaMgFnArithmetics18
import Derived.Test.YtapljpcpmdlppaaMgFnArithmetics32
import Derived.Test.YtapljpcpmdlppaaMgFnArithmetics33
namespace Go.Proofs.Ytapljpcpmdlppaa
open Go.RowKit
set_option linter.unusedVariables false
set_option linter.unusedSimpArgs false
/-- The value of a step behind values l. -/
def evD (p : Int) (ins l : List Int) (s : Stp) : Int :=
  if s.1 = 1 then ins.getD s.2.1.toNat 0 else if s.1 = 3 then (l.getD s.2.1.toNat 0 + l.getD s.2.2.toNat 0) % p else if s.1 = 4 then (l.getD s.2.1.toNat 0 * l.getD s.2.2.toNat 0) % p else s.2.1
def evS (m : AM) (ins : List Int) : Nat → List Int
  | 0 => []
  | k + 1 => evS m ins k ++ [evD m.p ins (evS m ins k) (stAt m k)]
theorem evS_len (m : AM) (ins : List Int) : ∀ k, (evS m ins k).length = k
  | 0 => rfl
  | k + 1 => by rw [evS, List.length_append, evS_len m ins k]; rfl
structure EvOk (m : AM) (ins : List Int) : Prop where
  ok : AOk m
  len : ins.length = 60
  el : elemsB m.p ins = true
theorem ins_rng {p : Int} {ins : List Int} (h : elemsB p ins = true) (j : Nat) : 0 ≤ ins.getD j 0 ∧ ins.getD j 0 < p := by
  obtain ⟨_, h2, _, h4⟩ := elemsB_is h
  rw [List.getD_eq_getElem?_getD]
  cases hj : ins[j]? with
  | none => simp; omega
  | some x => exact h4 x (List.mem_of_getElem? hj)
theorem evS_rng {m : AM} {ins : List Int} (h : EvOk m ins) : ∀ k, k ≤ m.st.length → ∀ j, 0 ≤ (evS m ins k).getD j 0 ∧ (evS m ins k).getD j 0 < m.p
  | 0, _, j => by
    have := (elemsB_is h.el).2.1
    simp [evS]; omega
  | k + 1, hk, j => by
    have ih := evS_rng h k (by omega)
    have h2 := (elemsB_is h.el).2.1
    have hst := h.ok.steps k (by omega)
    rw [evS, List.getD_eq_getElem?_getD, List.getElem?_append]
    split
    · have := ih j
      rw [List.getD_eq_getElem?_getD] at this
      exact this
    · cases hj : j - (evS m ins k).length with
      | zero =>
        simp only [List.getElem?_cons_zero, Option.getD_some]
        obtain ⟨⟨x, y, z⟩, hs⟩ : ∃ s, stAt m k = s := ⟨_, rfl⟩
        rw [hs] at hst ⊢
        unfold evD
        simp only
        split
        · exact ins_rng h.el _
        · split
          · exact ⟨Int.emod_nonneg _ (by omega), Int.emod_lt_of_pos _ (by omega)⟩
          · split
            · exact ⟨Int.emod_nonneg _ (by omega), Int.emod_lt_of_pos _ (by omega)⟩
            · have h2' : x = 2 := by
                by_cases e : x = 2
                · exact e
                · simp [stepB, *] at hst
              subst h2'
              simp [stepB] at hst
              have := elemB_is hst.1
              omega
      | succ i => simp; omega
open Classical in
noncomputable def evB (m : AM) (ins : List Int) : Bool := decide (EvOk m ins)
theorem evB_yes {m : AM} {ins : List Int} (h : EvOk m ins) : evB m ins = true := by simp [evB, h]
theorem evB_no {m : AM} {ins : List Int} (h : ¬ EvOk m ins) : evB m ins = false := by simp [evB, h]
def evOut (m : AM) (ins : List Int) (k : Nat) : List Int := (m.outs.take k).map fun o => (evS m ins m.st.length).getD o.toNat 0
theorem evOut_succ (m : AM) (ins : List Int) (k : Nat) (h : k < m.outs.length) : evOut m ins (k + 1) = evOut m ins k ++ [(evS m ins m.st.length).getD (m.outs.getD k 0).toNat 0] := by
  unfold evOut
  rw [List.take_succ_eq_append_getElem h, List.map_append, getI _ _ h]
  rfl
theorem evOut_len (m : AM) (ins : List Int) (k : Nat) (h : k ≤ m.outs.length) : (evOut m ins k).length = k := by simp [evOut]; omega
open Classical in
noncomputable def evR (m : AM) (ins : List Int) : List Int := if EvOk m ins then evOut m ins m.outs.length else []
theorem evR_yes {m : AM} {ins : List Int} (h : EvOk m ins) : evR m ins = evOut m ins m.outs.length := by simp [evR, h]
theorem evR_no {m : AM} {ins : List Int} (h : ¬ EvOk m ins) : evR m ins = [] := by simp [evR, h]
theorem evR_len (m : AM) (ins : List Int) : (evR m ins).length ≤ m.outs.length := by
  by_cases h : EvOk m ins
  · rw [evR_yes h, evOut_len _ _ _ (Nat.le_refl _)]; exact Nat.le_refl _
  · rw [evR_no h]; simp
/-- What EvalArith hands back. -/
def EvJ (m : AM) (ins : List Int) (w : World) (e : Ending) (w' : World) : Prop := ∃ V, e = .returned (.tuple #[V, .bool (evB m ins)]) ∧ w'.ownsRow w.heap.size 3 1 V (evR m ins).length ((evR m ins).map (Value.int .i64)) ∧ w.grownBy w' none
theorem EvJ.no {m : AM} {ins : List Int} {w w' : World} {V : Value} (h : ¬ EvOk m ins) (ho : w'.ownsRow w.heap.size 3 1 V 0 []) (hg : w.grownBy w' none) : EvJ m ins w (.returned (.tuple #[V, .bool false])) w' := ⟨V, by rw [evB_no h], by rw [evR_no h]; exact ho, hg⟩
theorem EvJ.yes {m : AM} {ins : List Int} {w w' : World} {V : Value} (h : EvOk m ins) {q : Nat} (hq : q = m.outs.length) (ho : w'.ownsRow w.heap.size 3 1 V q ((evOut m ins q).map (Value.int .i64))) (hg : w.grownBy w' none) : EvJ m ins w (.returned (.tuple #[V, .bool true])) w' := by
  subst hq
  refine ⟨V, by rw [evB_yes h], ?_, hg⟩
  rw [evR_yes h, evOut_len _ _ _ (Nat.le_refl _)]
  exact ho
theorem EvJ.own {m : AM} {ins : List Int} {w w' : World} {e : Ending} (h : EvJ m ins w e w') : ∃ V F, e = .returned (.tuple #[V, .bool (evB m ins)]) ∧ (cints (evR m ins)).own w' F V ∧ (∀ g ∈ F, w.heap.size ≤ g) ∧ w.grownBy w' none := by
  obtain ⟨V, h1, h2, h3⟩ := h
  exact ⟨V, _, h1, cints_own h2, fun g hg => (h2.lt g (by simpa using hg)).1, h3⟩
theorem specFMul_yes (p a b : Int) (w : World) (ha : elemB p a = true) (hb : elemB p b = true) :
    Calls Try.prog 102 #[.int .i64 p, .int .i64 a, .int .i64 b] w fun e w' => e = .returned (.int .i64 ((a * b) % p)) ∧ w = w' := by
  obtain ⟨_, p2, p101, a0, a1⟩ := elemB_is ha
  obtain ⟨_, _, _, b0, b1⟩ := elemB_is hb
  have HA := Lib.hid ha
  have HB := Lib.hid hb
  have hm := prod_le (a := a) (b := b) (m := 101) a0 b0 (by omega) (by omega)
  obtain ⟨m, hme⟩ : ∃ m, a * b = m := ⟨_, rfl⟩
  rw [hme] at hm ⊢
  obtain ⟨m0, m1⟩ := hm
  clear ha hb
  go_enter Try.func102, Try.ntmps102
  go_wp2_with fail
  refine (specl03Both_c p a b _ (by omega)).mono ?_
  rintro e w1 ⟨rfl, rfl⟩
  rw [HA.out, HB.out, Bool.and_self]
  go_wp2_with fail
  go_ret
  exact ⟨rfl, rfl⟩
theorem implFAdd_yes (p a b : Int) (w : World) (ha : elemB p a = true) (hb : elemB p b = true) :
    Calls Try.prog 88 #[.int .i64 p, .int .i64 a, .int .i64 b] w fun e w' => e = .returned (.int .i64 ((a + b) % p)) ∧ w.grownBy w' none := by
  obtain ⟨_, p2, p101, a0, a1⟩ := elemB_is ha
  obtain ⟨_, _, _, b0, b1⟩ := elemB_is hb
  have H := Lib.hid (show elemsB p [a, b] = true by rw [elemsB_two, ha, hb]; rfl)
  have hm : 0 ≤ a + b ∧ a + b ≤ 101 * 101 := by omega
  obtain ⟨m, hme⟩ : ∃ m, a + b = m := ⟨_, rfl⟩
  rw [hme] at hm ⊢
  obtain ⟨m0, m1⟩ := hm
  clear ha hb
  go_enter Try.func88, Try.ntmps88
  go_wp2_with fail
  refine (implareElements_c p _ 2 2 [a, b] _ (by omega) (by omega) (ints2 _ _ _ _) (by omega)).mono ?_
  rintro e w1 ⟨rfl, rfl⟩
  rw [H.out]
  go_wp2_with fail
  go_ret
  exact ⟨rfl, gbA (gbR _ _) _⟩
theorem implFMul_yes (p a b : Int) (w : World) (ha : elemB p a = true) (hb : elemB p b = true) :
    Calls Try.prog 89 #[.int .i64 p, .int .i64 a, .int .i64 b] w fun e w' => e = .returned (.int .i64 ((a * b) % p)) ∧ w.grownBy w' none := by
  obtain ⟨_, p2, p101, a0, a1⟩ := elemB_is ha
  obtain ⟨_, _, _, b0, b1⟩ := elemB_is hb
  have H := Lib.hid (show elemsB p [a, b] = true by rw [elemsB_two, ha, hb]; rfl)
  have hm : 0 ≤ a * b ∧ a * b ≤ 101 * 101 := prod_le (a := a) (b := b) (m := 101) a0 b0 (by omega) (by omega)
  obtain ⟨m, hme⟩ : ∃ m, a * b = m := ⟨_, rfl⟩
  rw [hme] at hm ⊢
  obtain ⟨m0, m1⟩ := hm
  clear ha hb
  go_enter Try.func89, Try.ntmps89
  go_wp2_with fail
  refine (implareElements_c p _ 2 2 [a, b] _ (by omega) (by omega) (ints2 _ _ _ _) (by omega)).mono ?_
  rintro e w1 ⟨rfl, rfl⟩
  rw [H.out]
  go_wp2_with fail
  go_ret
  exact ⟨rfl, gbA (gbR _ _) _⟩
end Go.Proofs.Ytapljpcpmdlppaa
