/-
  Lists of lists of numbers: the laws' helpers toIntSS, eqIntSS, markIntSS, szIntSS.
-/
import Derived.Test.YthdfkiaoahpjpaaMgFnArithmetic21
namespace Go.Proofs.Ythdfkiaoahpjpaa
open Go.RowKit
set_option linter.unusedVariables false
set_option linter.unusedSimpArgs false
abbrev Mat (w : World) (A : Option Addr) (n : Nat) (rows : List (List Int)) : Prop := RdC w 1 A n (rows.map ir)
theorem mat_len {w : World} {A : Option Addr} {n : Nat} {rows : List (List Int)} (h : Mat w A n rows) : rows.length = n := by simpa using RdC.len h
theorem mat_at {w : World} {A : Option Addr} {n : Nat} {rows : List (List Int)} (h : Mat w A n rows) {k : Nat} (hk : k < n) :
    ∃ b o B c, A = some ⟨b, o, none⟩ ∧ b < w.heap.size ∧ w.cell? ⟨b, o + k, none⟩ = some (.slice B (rows.getD k []).length c) ∧ Ints w B (rows.getD k []).length (rows.getD k []) ∧ (rows.getD k []).length ≤ c ∧ c ≤ maxLen := by
  obtain ⟨b, o, v, cd, rfl, hb, hcd, hc, hr⟩ := RdC.at_ h (i := k) (by omega)
  rw [List.getElem?_map] at hcd
  cases hrow : rows[k]? with
  | none => rw [hrow] at hcd; cases hcd
  | some r =>
    rw [hrow] at hcd
    injection hcd with hcd
    subst hcd
    obtain ⟨B, c, rfl, h1, h2, h3⟩ := ir_rd hr
    have e : rows.getD k [] = r := by rw [List.getD_eq_getElem?_getD, hrow]; rfl
    rw [e]
    exact ⟨b, o, B, c, rfl, hb, hc, h3, h1, h2⟩
end Go.Proofs.Ythdfkiaoahpjpaa
/-
  Lists of lists of numbers of the call's own: a row is pushed.
-/
namespace Go.Proofs.Ythdfkiaoahpjpaa
open Go.RowKit
set_option linter.unusedVariables false
set_option linter.unusedSimpArgs false
abbrev cintss (rows : List (List Int)) : CS := lst 24 1 (fun r => [cints r]) rows
theorem cintss_flat (rows : List (List Int)) : rows.flatMap (fun r => [cints r]) = rows.map cints := flat_one _ rows
theorem cintss_mat {w : World} {rows : List (List Int)} {v : Value} (h : (cintss rows).rd w v) : ∃ A c, v = .slice A rows.length c ∧ rows.length ≤ c ∧ c ≤ maxLen ∧ Mat w A rows.length rows := by
  obtain ⟨A, c, vs, h1, h2, h3, h4, h5⟩ := lst_rd (s := 1) (fun _ => rfl) (by omega) h
  refine ⟨A, c, h1, h2, h3, vs, by rw [h4.1, cintss_flat]; simp, fun i cd v hc hv => ?_, h5⟩
  rw [List.getElem?_map] at hc
  cases hr : rows[i]? with
  | none => rw [hr] at hc; cases hc
  | some r =>
    rw [hr] at hc
    injection hc with hc
    subst hc
    have := h4.2 i (cints r) v (by rw [cintss_flat, List.getElem?_map, hr]; rfl) hv
    obtain ⟨B, d, rfl, q1, q2, q3⟩ := cints_rd this
    exact ⟨B, d, rfl, q1, q2, q3⟩
def MO (H : Nat) (w : World) (s : Value) (rows : List (List Int)) : Prop := ∃ F, (cintss rows).own w F s ∧ ∀ x ∈ F, H ≤ x
section
variable {H : Nat} {w w' : World} {s : Value} {rows : List (List Int)}
theorem MO.grow (h : MO H w s rows) (hg : w.grownBy w' none) : MO H w' s rows := by
  obtain ⟨F, h1, h2⟩ := h
  exact ⟨F, own_growK _ h1 hg, h2⟩
theorem MO.mat (h : MO H w s rows) : ∃ A c, s = .slice A rows.length c ∧ rows.length ≤ c ∧ c ≤ maxLen ∧ Mat w A rows.length rows := by
  obtain ⟨F, h1, h2⟩ := h
  exact cintss_mat (CS.toRd _ h1)
theorem MO.form (h : MO H w s rows) : ∃ A c, s = .slice A rows.length c := by
  obtain ⟨A, c, h1, _⟩ := h.mat
  exact ⟨A, c, h1⟩
theorem MO.nil (h : w.ownsRow H 24 1 s 0 []) : MO H w s [] := by
  refine ⟨s.ownBlock.toList, ⟨0, [], [], rfl, own_base h (Nat.zero_le _), OwnAll.nil _, by simp, by cases s.ownBlock <;> simp⟩, fun x hx => ?_⟩
  exact (h.lt x (by simpa using hx)).1
theorem MO.push (h : MO H w s rows) (hH : H ≤ w.heap.size) (hg : w.grownBy w' none) {r : List Int} {u : Value} {Fr : List Nat} (hu : (cints r).own w' Fr u) (hd : ∀ x ∈ Fr, w.heap.size ≤ x) :
    ∃ vs, w'.ownsRow H 24 1 s rows.length vs ∧ ∀ (w2 : World) (v2 : Value), w2.ownsRow H 24 1 v2 (rows.length + 1) (vs ++ [u]) → w'.grownBy w2 s.ownBlock → (∀ g, v2.ownBlock = some g → some g = s.ownBlock ∨ w'.heap.size ≤ g) → MO H w2 v2 (rows ++ [r]) := by
  obtain ⟨F, h1, h2⟩ := h
  have hF : ∀ x ∈ F, x < w.heap.size := CS.lt _ h1
  have h1' := own_growK _ h1 hg
  obtain ⟨n, vs, hl, hown, hob, hpush⟩ := row_push h1'
  have hn : rows.length = n := by rw [cintss_flat] at hl; simpa using hl
  subst hn
  refine ⟨vs, own_rebase hown fun g hg' => h2 g (hob g hg'), fun w2 v2 ho2 hg2 hv2 => ?_⟩
  have hFr : ∀ x ∈ Fr, x < w'.heap.size := CS.lt _ hu
  have hu2 : (cints r).own w2 Fr u := CS.kept _ hu fun g hg' => hg2.block g (hFr g hg') (fun e => by
    have h5 := hF g (hob g e.symm)
    have h6 := hd g hg'
    omega)
  obtain ⟨F', hF', hs⟩ := hpush w2 v2 1 [u] [cints r] [Fr] rfl (own_base ho2 (Nat.zero_le _)) hg2 hv2 (OwnAll.cons hu2 (OwnAll.nil _) (fun g hg' => by simp))
    (fun x hx hx' => by
      have h5 := hF x hx'
      have h6 := hd x (by simpa using hx)
      omega)
    (fun g hg' hx => by
      have hx : g ∈ Fr := by simpa using hx
      rcases hv2 g hg' with h5 | h5
      · have := hF g (hob g h5.symm); have := hd g hx; omega
      · have := hFr g hx; omega)
  refine ⟨F', ?_, fun x hx => ?_⟩
  · have e : (rows ++ [r]).flatMap (fun r => [cints r]) = rows.flatMap (fun r => [cints r]) ++ [cints r] := by simp
    show (row 24 1 ((rows ++ [r]).flatMap fun r => [cints r])).own w2 F' v2
    rw [e]
    exact hF'
  · rcases hs x hx with h5 | h5 | h5
    · exact h2 x h5
    · have := hg.size; omega
    · have := hd x (by simpa using h5); omega
end
end Go.Proofs.Ythdfkiaoahpjpaa
