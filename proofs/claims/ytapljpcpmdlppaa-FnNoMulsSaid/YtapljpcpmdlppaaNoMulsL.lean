/-
  A circuit without multiplications: plain law.
-/
import Derived.Test.YtapljpcpmdlppaaEval
import Derived.Test.YtapljpcpmdlppaaRounds
namespace Go.Proofs.Ytapljpcpmdlppaa
open Go.RowKit
set_option linter.unusedVariables false
def nst : Nat → List Stp
  | 0 => [(1, 0, 0)]
  | i + 1 => nst i ++ [(1, (i : Int) + 1, 0), (3, 2 * (i : Int), 2 * (i : Int) + 1)]
theorem nst_len : ∀ i, (nst i).length = 2 * i + 1
  | 0 => rfl
  | i + 1 => by rw [nst, List.length_append, nst_len i]; simp; omega
theorem nst_pre : ∀ (i j k : Nat), j ≤ i → k < 2 * j + 1 → (nst i).getD k (0, 0, 0) = (nst j).getD k (0, 0, 0)
  | 0, j, k, h, _ => by have : j = 0 := by omega
                        subst this; rfl
  | i + 1, j, k, h, hk => by
    by_cases e : j = i + 1
    · subst e; rfl
    · rw [nst, List.getD_eq_getElem?_getD, List.getElem?_append_left (by rw [nst_len]; omega), ← List.getD_eq_getElem?_getD]
      exact nst_pre i j k (by omega) hk
theorem nst_zero (n : Nat) : (nst n).getD 0 (0, 0, 0) = (1, 0, 0) := by rw [nst_pre n 0 0 (by omega) (by omega)]; rfl
theorem nst_odd {n i : Nat} (h : i < n) : (nst n).getD (2 * i + 1) (0, 0, 0) = (1, (i : Int) + 1, 0) := by
  rw [nst_pre n (i + 1) _ (by omega) (by omega), nst, List.getD_eq_getElem?_getD, List.getElem?_append_right (by rw [nst_len]; omega), nst_len]
  simp
theorem nst_even {n i : Nat} (h : i < n) : (nst n).getD (2 * i + 2) (0, 0, 0) = (3, 2 * (i : Int), 2 * (i : Int) + 1) := by
  rw [nst_pre n (i + 1) _ (by omega) (by omega), nst, List.getD_eq_getElem?_getD, List.getElem?_append_right (by rw [nst_len]; omega), nst_len]
  rw [show 2 * i + 2 - (2 * i + 1) = 1 by omega]
  rfl
theorem nst_split (n k : Nat) (h : k < 2 * n + 1) : k = 0 ∨ (∃ i, i < n ∧ k = 2 * i + 1) ∨ ∃ i, i < n ∧ k = 2 * i + 2 := by
  by_cases h0 : k = 0
  · exact .inl h0
  · by_cases h1 : k % 2 = 1
    · exact .inr (.inl ⟨k / 2, by omega, by omega⟩)
    · exact .inr (.inr ⟨k / 2 - 1, by omega, by omega⟩)
def inV (p : Int) (qs : List Int) (i : Nat) : Int := if i = 0 then qs.getD 0 0 % p else if i ≤ 8 then qs.getD (i + 1) 0 % p else 0
def nins (p : Int) (qs : List Int) : List Int := (List.range 60).map (inV p qs)
theorem nins_len (p : Int) (qs : List Int) : (nins p qs).length = 60 := by simp [nins]
theorem nins_at (p : Int) (qs : List Int) (i : Nat) (h : i < 60) : (nins p qs).getD i 0 = inV p qs i := by
  rw [List.getD_eq_getElem?_getD]; simp [nins, h]
theorem inV_rng {p : Int} (qs : List Int) (hp : 2 ≤ p) (i : Nat) : 0 ≤ inV p qs i ∧ inV p qs i < p := by
  unfold inV
  split
  · exact ⟨Int.emod_nonneg _ (by omega), Int.emod_lt_of_pos _ (by omega)⟩
  · split
    · exact ⟨Int.emod_nonneg _ (by omega), Int.emod_lt_of_pos _ (by omega)⟩
    · omega
def want (p : Int) (qs : List Int) : Nat → Int
  | 0 => qs.getD 0 0 % p
  | i + 1 => (want p qs i + qs.getD (2 + i) 0) % p
theorem want_rng {p : Int} (qs : List Int) (hp : 2 ≤ p) : ∀ i, 0 ≤ want p qs i ∧ want p qs i < p
  | 0 => ⟨Int.emod_nonneg _ (by omega), Int.emod_lt_of_pos _ (by omega)⟩
  | i + 1 => ⟨Int.emod_nonneg _ (by omega), Int.emod_lt_of_pos _ (by omega)⟩
def nM (p : Int) (n : Nat) : AM := ⟨p, nst n, [2 * (n : Int)]⟩
theorem nM_ok {p : Int} (hf : fieldB p = true) {n : Nat} (h8 : n ≤ 8) : AOk (nM p n) := by
  refine ⟨hf, by show (nst n).length ≤ 60; rw [nst_len]; omega, fun j hj => ?_, fun z hz => ?_⟩
  · have hj' : j < 2 * n + 1 := by have : j < (nst n).length := hj; rwa [nst_len] at this
    show stepB p j ((nst n).getD j (0, 0, 0)) = true
    rcases nst_split n j hj' with rfl | ⟨i, hi, rfl⟩ | ⟨i, hi, rfl⟩
    · rw [nst_zero]; simp [stepB, inB]
    · rw [nst_odd hi]
      simp [stepB, inB]; omega
    · rw [nst_even hi]
      simp [stepB, inB]; omega
  · have : z = 2 * (n : Int) := by simpa [nM] using hz
    subst this
    rw [inB_iff]
    show 0 ≤ 2 * (n : Int) ∧ 2 * (n : Int) ≤ ((nst n).length : Int) - 1
    rw [nst_len]
    omega
theorem nM_ev {p : Int} (hf : fieldB p = true) (qs : List Int) {n : Nat} (h8 : n ≤ 8) : EvOk (nM p n) (nins p qs) := by
  refine ⟨nM_ok hf h8, nins_len _ _, elemsB_mk hf fun a ha => ?_⟩
  obtain ⟨i, _, rfl⟩ := List.mem_map.1 ha
  exact inV_rng qs (field_range hf).1 i
theorem evS_pre (m : AM) (ins : List Int) : ∀ (k j : Nat), j < k → (evS m ins (k + 1)).getD j 0 = (evS m ins k).getD j 0 := fun k j h => by
  rw [evS, List.getD_eq_getElem?_getD, List.getElem?_append_left (by rw [evS_len]; exact h), ← List.getD_eq_getElem?_getD]
theorem evS_last (m : AM) (ins : List Int) (k : Nat) : (evS m ins (k + 1)).getD k 0 = evD m.p ins (evS m ins k) (stAt m k) := by
  rw [evS, List.getD_eq_getElem?_getD, List.getElem?_append_right (by rw [evS_len]; exact Nat.le_refl _), evS_len, Nat.sub_self]
  rfl
theorem nM_val (p : Int) (qs : List Int) {n : Nat} (h8 : n ≤ 8) : ∀ i, i ≤ n → (evS (nM p n) (nins p qs) (2 * i + 1)).getD (2 * i) 0 = want p qs i
  | 0, _ => by
    rw [evS_last]
    show evD p (nins p qs) _ ((nst n).getD 0 (0, 0, 0)) = _
    rw [nst_zero]
    simp only [evD, if_pos]
    rw [show (0 : Int).toNat = 0 from rfl, nins_at _ _ _ (by omega)]
    rfl
  | i + 1, h => by
    have ih := nM_val p qs h8 i (by omega)
    rw [show 2 * (i + 1) + 1 = (2 * i + 2) + 1 by omega, show 2 * (i + 1) = 2 * i + 2 by omega, evS_last]
    show evD p (nins p qs) _ ((nst n).getD (2 * i + 2) (0, 0, 0)) = _
    rw [nst_even (by omega)]
    have e1 : (evS (nM p n) (nins p qs) (2 * i + 2)).getD (2 * i) 0 = want p qs i := by rw [evS_pre _ _ _ _ (by omega), ih]
    have e2 : (evS (nM p n) (nins p qs) (2 * i + 2)).getD (2 * i + 1) 0 = qs.getD (2 + i) 0 % p := by
      rw [evS_last]
      show evD p (nins p qs) _ ((nst n).getD (2 * i + 1) (0, 0, 0)) = _
      rw [nst_odd (by omega)]
      simp only [evD, if_pos]
      rw [show ((i : Int) + 1).toNat = i + 1 by omega, nins_at _ _ _ (by omega)]
      unfold inV
      rw [if_neg (by omega), if_pos (by omega), show i + 1 + 1 = 2 + i by omega]
    unfold evD
    rw [if_neg (by simp), if_pos rfl]
    rw [show (2 * (i : Int)).toNat = 2 * i by omega, show (2 * (i : Int) + 1).toNat = 2 * i + 1 by omega, e1, e2, want, Int.add_emod_emod]
theorem nM_out {p : Int} (hf : fieldB p = true) (qs : List Int) {n : Nat} (h8 : n ≤ 8) : evR (nM p n) (nins p qs) = [want p qs n] := by
  rw [evR_yes (nM_ev hf qs h8)]
  have h1 : (nM p n).st.length = 2 * n + 1 := nst_len n
  unfold evOut
  rw [h1]
  show [(evS (nM p n) (nins p qs) (2 * n + 1)).getD (2 * (n : Int)).toNat 0] = _
  rw [show (2 * (n : Int)).toNat = 2 * n by omega, nM_val p qs h8 n (Nat.le_refl _)]
theorem kinds {n k : Nat} (h : k < 2 * n + 1) : ((nst n).getD k (0, 0, 0)).1 = 1 ∨ ((nst n).getD k (0, 0, 0)).1 = 3 := by
  rcases nst_split n k h with rfl | ⟨i, hi, rfl⟩ | ⟨i, hi, rfl⟩
  · rw [nst_zero]; exact .inl rfl
  · rw [nst_odd hi]; exact .inl rfl
  · rw [nst_even hi]; exact .inr rfl
theorem nM_deps (p : Int) (n : Nat) : ∀ k, k ≤ 2 * n + 1 → depsS (nM p n) k = List.replicate k 0
  | 0, _ => rfl
  | k + 1, h => by
    rw [depsS, nM_deps p n k (by omega), List.replicate_succ']
    congr 1
    have hk : stAt (nM p n) k = (nst n).getD k (0, 0, 0) := rfl
    rw [hk]
    unfold depD
    have z : ∀ j : Nat, (List.replicate k (0 : Int)).getD j 0 = 0 := fun j => by rw [List.getD_eq_getElem?_getD, List.getElem?_replicate]; split <;> rfl
    rcases kinds (n := n) (k := k) (by omega) with e | e
    · rw [if_neg (by omega), if_neg (by omega)]
    · rw [if_pos e, z, z]; rfl
theorem nM_mdepth {p : Int} (hf : fieldB p = true) {n : Nat} (h8 : n ≤ 8) : mdepth (nM p n) = List.replicate (2 * n + 1) 0 := by
  rw [mdepth_yes (nM_ok hf h8)]
  have h1 : (nM p n).st.length = 2 * n + 1 := nst_len n
  rw [h1]
  exact nM_deps p n _ (Nat.le_refl _)
theorem nM_muls (p : Int) (n : Nat) : muls (nM p n).st (nM p n).st.length = 0 := by
  unfold muls
  rw [List.take_length, List.countP_eq_zero]
  intro s hs
  obtain ⟨k, hk, rfl⟩ := List.getElem_of_mem hs
  have hk' : k < 2 * n + 1 := by have := nst_len n; exact this ▸ hk
  have := kinds hk'
  have e : (nst n).getD k (0, 0, 0) = (nM p n).st[k] := by
    show (nst n).getD k (0, 0, 0) = (nst n)[k]'hk
    rw [List.getD_eq_getElem?_getD, List.getElem?_eq_getElem (l := nst n) hk]; rfl
  rw [e] at this
  simp
  omega
theorem maxTo_rep (n : Nat) : ∀ k, maxTo (List.replicate n 0) k = 0
  | 0 => rfl
  | k + 1 => by
    have : (List.replicate n (0 : Int)).getD k 0 = 0 := by rw [List.getD_eq_getElem?_getD, List.getElem?_replicate]; split <;> rfl
    rw [maxTo, maxTo_rep n k, this]; rfl
theorem nM_rounds {p : Int} (hf : fieldB p = true) {n : Nat} (h8 : n ≤ 8) : rounds (nM p n) = 0 := by
  unfold rounds
  rw [nM_mdepth hf h8]
  exact maxTo_rep _ _
end Go.Proofs.Ytapljpcpmdlppaa
