/-
  Garbling, in plain numbers: zero labels and tables, gate by gate; all are labels.
-/
import Derived.Test.YthdfkiaoahpjpaaMgFnCaught16
import Derived.Test.YthdfkiaoahpjpaaMgFnCaught28
namespace Go.Proofs.Ythdfkiaoahpjpaa
open Go.RowKit
set_option linter.unusedVariables false
set_option linter.unusedSimpArgs false
theorem xor16 {a b : Nat} (ha : a < 65536) (hb : b < 65536) : a ^^^ b < 65536 := Nat.xor_lt_two_pow (n := 16) ha hb
def bitD (b d : Nat) : Nat := (b &&& 1) * d
theorem bit01 (b : Nat) : b &&& 1 = 0 ∨ b &&& 1 = 1 := by
  rw [Nat.and_one_is_mod]
  omega
theorem bitD_lt {b d : Nat} (hd : d < 65536) : bitD b d < 65536 := by
  unfold bitD
  rcases bit01 b with h | h <;> rw [h] <;> omega
def tabX (d n a b : Nat) : Nat := hshN a (2 * n) ^^^ hshN (a ^^^ d) (2 * n) ^^^ bitD b d
def tabY (d n a b : Nat) : Nat := hshN b (2 * n + 1) ^^^ hshN (b ^^^ d) (2 * n + 1) ^^^ a
def andZ (d n a b : Nat) : Nat := hshN a (2 * n) ^^^ hshN b (2 * n + 1) ^^^ bitD a (tabX d n a b) ^^^ bitD b (tabY d n a b ^^^ a)
theorem tabX_lt {d n a b : Nat} (hd : d < 65536) : tabX d n a b < 65536 := xor16 (xor16 (hshN_lt _ _) (hshN_lt _ _)) (bitD_lt hd)
theorem tabY_lt {d n a b : Nat} (ha : a < 65536) : tabY d n a b < 65536 := xor16 (xor16 (hshN_lt _ _) (hshN_lt _ _)) ha
theorem andZ_lt {d n a b : Nat} (hd : d < 65536) (ha : a < 65536) : andZ d n a b < 65536 := xor16 (xor16 (xor16 (hshN_lt _ _) (hshN_lt _ _)) (bitD_lt (tabX_lt hd))) (bitD_lt (xor16 (tabY_lt ha) ha))
def zeroN (s : Nat) (zs : List Int) (n : Nat) (g : Gat) : Nat :=
  if g.1 = 1 then inzN s g.2.1.toNat else if g.1 = 2 then inzN s (1000 + n)
  else if g.1 = 3 then (zs.getD g.2.1.toNat 0).toNat ^^^ (zs.getD g.2.2.toNat 0).toNat
  else if g.1 = 5 then (zs.getD g.2.1.toNat 0).toNat ^^^ dltN s
  else if g.1 = 4 then andZ (dltN s) n (zs.getD g.2.1.toNat 0).toNat (zs.getD g.2.2.toNat 0).toNat else 0
def tabN (s : Nat) (zs : List Int) (n : Nat) (g : Gat) : List Int :=
  if g.1 = 4 then [(tabX (dltN s) n (zs.getD g.2.1.toNat 0).toNat (zs.getD g.2.2.toNat 0).toNat : Int), (tabY (dltN s) n (zs.getD g.2.1.toNat 0).toNat (zs.getD g.2.2.toNat 0).toNat : Int)] else []
def garZ (s : Nat) (gs : List Gat) : Nat → List Int
  | 0 => []
  | k + 1 => garZ s gs k ++ [((zeroN s (garZ s gs k) k (gs.getD k (0, 0, 0)) : Nat) : Int)]
def garT (s : Nat) (gs : List Gat) : Nat → List Int
  | 0 => []
  | k + 1 => garT s gs k ++ tabN s (garZ s gs k) k (gs.getD k (0, 0, 0))
def labI (x : Int) : Prop := 0 ≤ x ∧ x < 65536
theorem labI.of (x : Nat) (h : x < 65536) : labI (x : Int) := ⟨by omega, by omega⟩
theorem lab_at {zs : List Int} (h : ∀ x ∈ zs, labI x) (j : Nat) : labI (zs.getD j 0) := by
  by_cases hk : j < zs.length
  · rw [getI zs j hk]
    exact h _ (List.getElem_mem hk)
  · simp [List.getD_eq_getElem?_getD, List.getElem?_eq_none (show zs.length ≤ j by omega), labI]
theorem lab_nat {zs : List Int} (h : ∀ x ∈ zs, labI x) (j : Nat) : (zs.getD j 0).toNat < 65536 := by
  have := lab_at h j
  unfold labI at this
  omega
theorem garZ_len (s : Nat) (gs : List Gat) : ∀ k, (garZ s gs k).length = k
  | 0 => rfl
  | k + 1 => by simp [garZ, garZ_len s gs k]
theorem zeroN_lt {s n : Nat} {zs : List Int} {g : Gat} (h : ∀ x ∈ zs, labI x) : zeroN s zs n g < 65536 := by
  unfold zeroN
  split
  · exact inzN_lt _ _
  split
  · exact inzN_lt _ _
  split
  · exact xor16 (lab_nat h _) (lab_nat h _)
  split
  · exact xor16 (lab_nat h _) (dltN_lt s)
  split
  · exact andZ_lt (dltN_lt s) (lab_nat h _)
  · omega
theorem garZ_lab (s : Nat) (gs : List Gat) : ∀ k, ∀ x ∈ garZ s gs k, labI x
  | 0 => fun x hx => by simp [garZ] at hx
  | k + 1 => fun x hx => by
    simp only [garZ, List.mem_append, List.mem_singleton] at hx
    rcases hx with hx | rfl
    · exact garZ_lab s gs k x hx
    · exact labI.of _ (zeroN_lt (garZ_lab s gs k))
theorem garT_lab (s : Nat) (gs : List Gat) : ∀ k, ∀ x ∈ garT s gs k, labI x
  | 0 => fun x hx => by simp [garT] at hx
  | k + 1 => fun x hx => by
    simp only [garT, List.mem_append] at hx
    rcases hx with hx | hx
    · exact garT_lab s gs k x hx
    · unfold tabN at hx
      split at hx
      · simp only [List.mem_cons, List.not_mem_nil, or_false] at hx
        rcases hx with rfl | rfl
        · exact labI.of _ (tabX_lt (dltN_lt s))
        · exact labI.of _ (tabY_lt (lab_nat (garZ_lab s gs k) _))
      · simp at hx
theorem garT_len (s : Nat) (gs : List Gat) : ∀ k, k ≤ gs.length → (garT s gs k).length = 2 * gts gs 4 k
  | 0, _ => by simp [garT, gts_zero]
  | k + 1, hk => by
    have hg : gs[k]? = some (gs.getD k (0, 0, 0)) := by rw [List.getD_eq_getElem?_getD, List.getElem?_eq_getElem (by omega)]; rfl
    rw [gts_succ gs 4 k _ hg, garT, List.length_append, garT_len s gs k (by omega)]
    unfold tabN
    clear hg
    generalize gs.getD k (0, 0, 0) = g
    obtain ⟨g1, g2, g3⟩ := g
    show 2 * gts gs 4 k + (if g1 = 4 then _ else _ : List Int).length = 2 * (gts gs 4 k + if (g1 == 4) = true then 1 else 0)
    by_cases h : g1 = 4
    · rw [if_pos h, if_pos (by simpa using h)]
      simp only [List.length_cons, List.length_nil]
      omega
    · rw [if_neg h, if_neg (by simpa using h)]
      rfl
theorem dlt_odd (s : Nat) : dltN s &&& 1 = 1 := by
  unfold dltN
  rw [Nat.and_one_is_mod]
  simp
def labN (z d v : Nat) : Nat := z ^^^ v * d
def conTo (s : Nat) (gs : List Gat) (zs : List Int) : Nat → List Int
  | 0 => []
  | k + 1 => conTo s gs zs k ++ (if (gs.getD k (0, 0, 0)).1 = 2 then [((labN (zs.getD k 0).toNat (dltN s) (gs.getD k (0, 0, 0)).2.1.toNat : Nat) : Int)] else [])
def decTo (m : CM) (zs : List Int) (k : Nat) : List Int := (m.outs.take k).map fun w => (((zs.getD w.toNat 0).toNat &&& 1 : Nat) : Int)
theorem decTo_succ (m : CM) (zs : List Int) (k : Nat) (hk : k < m.outs.length) : decTo m zs (k + 1) = decTo m zs k ++ [(((zs.getD (m.outs.getD k 0).toNat 0).toNat &&& 1 : Nat) : Int)] := by
  unfold decTo
  rw [List.take_succ_eq_append_getElem hk, List.map_append, getI _ _ hk]
  rfl
theorem decTo_len (m : CM) (zs : List Int) (k : Nat) (hk : k ≤ m.outs.length) : (decTo m zs k).length = k := by
  unfold decTo
  simp
  omega
theorem conTo_le (s : Nat) (gs : List Gat) (zs : List Int) : ∀ k, (conTo s gs zs k).length ≤ k
  | 0 => Nat.le_refl _
  | k + 1 => by
    have := conTo_le s gs zs k
    simp only [conTo, List.length_append]
    split
    · simp; omega
    · simp; omega
end Go.Proofs.Ythdfkiaoahpjpaa
