/-
  A circuit's wires as the digits of a number; what is checked of a circuit, gate by gate.
-/
import Derived.Test.YthdfkiaoahpjpaaMgFnConstantCircuits26
namespace Go.Proofs.Ythdfkiaoahpjpaa
open Go.RowKit
set_option linter.unusedVariables false
set_option linter.unusedSimpArgs false
def accTo (gs : List Gat) : Nat → Nat
  | 0 => 0
  | k + 1 => stepN (accTo gs k) k (gs.getD k (0, 0, 0))
theorem runN_acc (gs : List Gat) : ∀ (r k : Nat), k + r = gs.length → runN (gs.drop k) k (accTo gs k) = accTo gs gs.length
  | 0, k, h => by
    rw [List.drop_of_length_le (by omega)]
    rw [show gs.length = k by omega]
    rfl
  | r + 1, k, h => by
    have hk : k < gs.length := by omega
    rw [List.drop_eq_getElem_cons hk]
    show runN (gs.drop (k + 1)) (k + 1) (stepN (accTo gs k) k gs[k]) = _
    have e : gs.getD k (0, 0, 0) = gs[k] := by rw [List.getD_eq_getElem?_getD, List.getElem?_eq_getElem hk]; rfl
    rw [← e]
    exact runN_acc gs r (k + 1) (by omega)
theorem mod2_xor (x y : Nat) : (x ^^^ y) % 2 = (x % 2) ^^^ (y % 2) := by
  have := Nat.xor_mod_two_pow (a := x) (b := y) (n := 1)
  simpa using this
theorem mod2_and (x y : Nat) : (x &&& y) % 2 = (x % 2) &&& (y % 2) := by
  have := Nat.and_mod_two_pow (a := x) (b := y) (n := 1)
  simpa using this
theorem dig_low {acc v k j : Nat} (hj : j < k) : ((acc + v * 2 ^ k) >>> j) % 2 = (acc >>> j) % 2 := by
  rw [Nat.shiftRight_eq_div_pow, Nat.shiftRight_eq_div_pow]
  have e : v * 2 ^ k = (v * 2 ^ (k - j - 1) * 2) * 2 ^ j := by
    rw [Nat.mul_assoc, Nat.mul_assoc, ← Nat.pow_succ', ← Nat.pow_add]
    congr 2
    omega
  rw [e, Nat.add_mul_div_right _ _ (Nat.two_pow_pos j), Nat.add_mul_mod_self_right]
theorem dig_top {acc v k : Nat} (h : acc < 2 ^ k) (hv : v < 2) : ((acc + v * 2 ^ k) >>> k) % 2 = v := by
  rw [Nat.shiftRight_eq_div_pow, Nat.add_mul_div_right _ _ (Nat.two_pow_pos k), Nat.div_eq_of_lt h]
  omega
def noIn (gs : List Gat) : Prop := ∀ j, j < gs.length → (gs.getD j (0, 0, 0)).1 ≠ 1
theorem step_is {m : CM} {bs : List Int} (hb : ∀ x ∈ bs, bitI x) (hm : COk m) (hn : noIn m.gt) {k : Nat} (hk : k < m.gt.length) {acc : Nat} (h : ∀ j, j < k → (acc >>> j) % 2 = ((wiresTo bs m.gt k).getD j 0).toNat) :
    stepN acc k (m.gt.getD k (0, 0, 0)) = acc + (gv bs (wiresTo bs m.gt k) (m.gt.getD k (0, 0, 0))).toNat * 2 ^ k := by
  have hg := hm.gates k hk
  have hw := wires_bit hb hm k (by omega)
  unfold gtAt at hg
  have h1 := hn k hk
  revert hg h1
  generalize m.gt.getD k (0, 0, 0) = g
  obtain ⟨x, y, z⟩ := g
  intro hg h1
  rcases gateB_kind hg with ⟨rfl, _⟩ | ⟨rfl, hy⟩ | ⟨rfl, a, b, rfl, rfl, ha, hb2⟩ | ⟨rfl, a, b, rfl, rfl, ha, hb2⟩ | ⟨rfl, a, rfl, ha⟩
  · exact absurd rfl h1
  · simp [stepN, gv]
  · have e1 := h a ha
    have e2 := h b hb2
    simp only [stepN, gv]
    simp only [Int.toNat_natCast, show ¬ ((3 : Int) = 2) by decide, show ¬ ((3 : Int) = 1) by decide, if_false, if_true]
    rw [mod2_xor, e1, e2]
    rfl
  · have e1 := h a ha
    have e2 := h b hb2
    simp only [stepN, gv]
    simp only [Int.toNat_natCast, show ¬ ((4 : Int) = 3) by decide, show ¬ ((4 : Int) = 2) by decide, show ¬ ((4 : Int) = 1) by decide, if_false, if_true]
    rw [mod2_and, e1, e2]
    rfl
  · have e1 := h a ha
    have e3 := getD_bit hw a
    simp only [stepN, gv]
    simp only [Int.toNat_natCast, show ¬ ((5 : Int) = 4) by decide, show ¬ ((5 : Int) = 3) by decide, show ¬ ((5 : Int) = 2) by decide, show ¬ ((5 : Int) = 1) by decide, if_false, if_true]
    rw [e1]
    obtain ⟨e4, e5⟩ := e3
    congr 2
    omega
theorem acc_is {m : CM} {bs : List Int} (hb : ∀ x ∈ bs, bitI x) (hm : COk m) (hn : noIn m.gt) : ∀ k, k ≤ m.gt.length → accTo m.gt k < 2 ^ k ∧ ∀ j, j < k → (accTo m.gt k >>> j) % 2 = ((wiresTo bs m.gt k).getD j 0).toNat
  | 0, _ => ⟨by simp [accTo], fun j hj => by omega⟩
  | k + 1, hk => by
    obtain ⟨h1, h2⟩ := acc_is hb hm hn k (by omega)
    have hs := step_is hb hm hn (by omega) h2
    have hl := wiresTo_len bs m.gt k
    have hv := gv_bit (k := k) hb (wires_bit hb hm k (by omega)) (hm.gates k (by omega))
    unfold gtAt at hv
    generalize hgv : gv bs (wiresTo bs m.gt k) (m.gt.getD k (0, 0, 0)) = v at *
    obtain ⟨v1, v2⟩ := hv
    have e : accTo m.gt (k + 1) = accTo m.gt k + v.toNat * 2 ^ k := hs
    have ew : wiresTo bs m.gt (k + 1) = wiresTo bs m.gt k ++ [v] := by rw [wiresTo, hgv]
    refine ⟨?_, fun j hj => ?_⟩
    · rw [e, Nat.pow_succ]
      have : v.toNat ≤ 1 := by omega
      have := Nat.mul_le_mul_right (2 ^ k) this
      omega
    · rw [e, ew]
      rcases Nat.lt_or_ge j k with h3 | h3
      · rw [dig_low h3, h2 j h3, List.getD_eq_getElem?_getD, List.getD_eq_getElem?_getD, List.getElem?_append_left (by omega)]
      · obtain rfl : j = k := by omega
        rw [dig_top h1 (by omega), List.getD_eq_getElem?_getD, List.getElem?_append_right (by omega), hl]
        simp
theorem wire_run {m : CM} {bs : List Int} (hb : ∀ x ∈ bs, bitI x) (hm : COk m) (hn : noIn m.gt) {j : Nat} (hj : j < m.gt.length) : (wiresTo bs m.gt m.gt.length).getD j 0 = (((runN m.gt 0 0) >>> j % 2 : Nat) : Int) := by
  have h1 := runN_acc m.gt m.gt.length 0 (by omega)
  rw [List.drop_zero] at h1
  rw [show runN m.gt 0 0 = accTo m.gt m.gt.length from h1, (acc_is hb hm hn _ (Nat.le_refl _)).2 j hj]
  have := (getD_bit (wires_bit hb hm _ (Nat.le_refl _)) j).1
  omega
def okF : List Gat → Nat → Bool
  | [], _ => true
  | g :: gs, k => gateB k g && okF gs (k + 1)
theorem okF_at : ∀ {gs : List Gat} {k : Nat}, okF gs k = true → ∀ j, j < gs.length → gateB (k + j : Nat) (gs.getD j (0, 0, 0)) = true
  | [], _, _, j, hj => by simp at hj
  | g :: gs, k, h, 0, _ => by
    unfold okF at h
    simp only [Bool.and_eq_true] at h
    exact h.1
  | g :: gs, k, h, j + 1, hj => by
    unfold okF at h
    simp only [Bool.and_eq_true] at h
    have := okF_at h.2 j (by simpa using hj)
    rw [show k + (j + 1) = k + 1 + j by omega]
    exact this
def okS (m : CM) : Bool := decide (m.gt.length ≤ 5900) && okF m.gt 0 && (m.outs.all fun z => inB z 0 (m.gt.length - 1)) && decide (m.outs.length ≤ 1000)
theorem okS_is {m : CM} (h : okS m = true) : WAsk m := by
  unfold okS at h
  simp only [Bool.and_eq_true, decide_eq_true_eq, List.all_eq_true] at h
  obtain ⟨⟨⟨h1, h2⟩, h3⟩, h4⟩ := h
  exact ⟨⟨by omega, fun j hj => by have := okF_at h2 j hj; rwa [Nat.zero_add] at this, h3⟩, h1, by omega⟩
def wdS (m : CM) (r : List Int) : Bool := r.length == 4 && r.all fun z => inB z 0 (m.gt.length - 1)
theorem wdS_is {m : CM} {r : List Int} (h : wdS m r = true) : wordB m r := by
  unfold wdS at h
  simp only [Bool.and_eq_true, beq_iff_eq, List.all_eq_true] at h
  exact h
def nIn (gs : List Gat) : Bool := gs.all fun g => !(g.1 == 1)
theorem nIn_is {gs : List Gat} (h : nIn gs = true) : noIn gs := fun j hj => by
  unfold nIn at h
  simp only [List.all_eq_true, Bool.not_eq_true', beq_eq_false_iff_ne, ne_eq] at h
  rw [List.getD_eq_getElem?_getD, List.getElem?_eq_getElem hj]
  exact h _ (List.getElem_mem hj)
def dg (r : Nat) (w : Int) : Int := ((r >>> w.toNat % 2 : Nat) : Int)
theorem dg_bit (r : Nat) (w : Int) : bitI (dg r w) := by
  unfold dg
  exact ⟨by omega, by omega⟩
theorem out_run {m : CM} {bs : List Int} (hb : ∀ x ∈ bs, bitI x) (hm : COk m) (hn : noIn m.gt) : outsTo m bs m.outs.length = m.outs.map (dg (runN m.gt 0 0)) := by
  unfold outsTo
  rw [List.take_of_length_le (Nat.le_refl _)]
  refine List.map_congr_left fun z hz => ?_
  have h1 := hm.outs z hz
  unfold inB at h1
  simp at h1
  rw [wire_run hb hm hn (by omega)]
  rfl
def cA (a : Nat) : List Int × CM := constTo m0 a 4
def cB (a b : Nat) : List Int × CM := constTo (cA a).2 b 4
end Go.Proofs.Ythdfkiaoahpjpaa
