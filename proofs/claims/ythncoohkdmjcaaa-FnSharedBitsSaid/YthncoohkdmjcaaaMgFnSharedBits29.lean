/-
  FAdd, FSub, FMul, FSum: reference and program, on elements.
-/
import Derived.Test.YthncoohkdmjcaaaMgFnSharedBits28
namespace Go.Proofs.Ythncoohkdmjcaaa
open Go.RowKit
set_option linter.unusedVariables false
set_option linter.unusedSimpArgs false
theorem fsub_i {p a b : Int} : (a - b + p) % p = (a - b) % p := by rw [Int.add_emod_right]
theorem fsub_s {p a b : Int} : (a + p - b) % p = (a - b) % p := by rw [show a + p - b = a - b + p by omega, Int.add_emod_right]
set_option maxHeartbeats 400000 in
theorem specFSub_y (p a b : Int) (w : World) (ha : elemB p a = true) (hb : elemB p b = true) :
    Calls Try.prog 89 #[.int .i64 p, .int .i64 a, .int .i64 b] w fun e w' => e = .returned (.int .i64 ((a - b) % p)) ∧ w.grownBy w' none := by
  obtain ⟨_, p2, p101, a0, a1⟩ := elemB_is ha
  obtain ⟨_, _, _, b0, b1⟩ := elemB_is hb
  have HA := Lib.hid ha
  have HB := Lib.hid hb
  clear ha hb


  rw [← fsub_s]

  go_enter Try.func89, Try.ntmps89
  go_wp2_with fail
  refine (specl03Both_c p a b _ (by omega)).mono ?_
  rintro e w1 ⟨rfl, rfl⟩
  rw [HA.out, HB.out, Bool.and_self]
  go_wp2_with fail
  go_ret
  exact ⟨rfl, gbR _ _⟩
def fsum (p : Int) (l : List Int) : Int := l.sum % p
theorem fsum_step {p : Int} {l : List Int} {k : Nat} (hk : k < l.length) : (fsum p (l.take k) + l.getD k 0) % p = fsum p (l.take (k + 1)) := by
  unfold fsum
  rw [take_snoc' l k hk, List.sum_append, Int.emod_add_emod]
  simp
theorem fsum_rng {p : Int} (hp : 2 ≤ p) (l : List Int) : 0 ≤ fsum p l ∧ fsum p l < p := ⟨Int.emod_nonneg _ (by omega), Int.emod_lt_of_pos _ (by omega)⟩
theorem fsum_elem {p : Int} (hf : fieldB p = true) (l : List Int) : elemB p (fsum p l) = true := by
  obtain ⟨h1, h2⟩ := field_range hf
  obtain ⟨h3, h4⟩ := fsum_rng h1 l
  exact elemB_mk hf h3 h4
theorem femod_elem {p : Int} (hf : fieldB p = true) (x : Int) : elemB p (x % p) = true := by
  obtain ⟨h1, h2⟩ := field_range hf
  exact elemB_mk hf (Int.emod_nonneg _ (by omega)) (Int.emod_lt_of_pos _ (by omega))
set_option maxHeartbeats 400000 in
theorem specFSum_y (p : Int) (A : Option Addr) (n c : Nat) (zs : List Int) (w : World) (h : elemsB p zs = true) (hx : Ints w A n zs) (hn : n ≤ 4611686018427387903) :
    Calls Try.prog 90 #[.int .i64 p, .slice A n c] w fun e w' => e = .returned (.int .i64 (fsum p zs)) ∧ w = w' := by
  obtain ⟨hf, p2, p101, hz⟩ := elemsB_is h
  have HE := Lib.hid h
  have LX := Lib.hid hx.len
  have HX := Lib.hid hx
  clear h hf
  go_enter Try.func90, Try.ntmps90
  go_wp2_with fail

  refine (specl03All_c p A n c zs _ (by omega) HX.out hn).mono ?_


  rintro e w1 ⟨rfl, rfl⟩
  rw [HE.out]
  go_wp2_with fail

  go_loop [5, 6] (fun z i => ∃ k : Nat, k ≤ n ∧ i = .int .i64 k ∧ z = .int .i64 (fsum p (zs.take k))) (fun _ i => n - (intOf i).toNat)


  case atStart => exact ⟨0, Nat.zero_le _, rfl, by simp [fsum]⟩
  case round =>
    obtain ⟨k, hk, rfl, rfl⟩ := hrel
    obtain ⟨s0, s1⟩ := fsum_rng p2 (zs.take k)
    by_cases hlt : k < n
    · obtain ⟨b, o, rfl, hb, hc⟩ := HX.out.at_ (by omega)
      have c0 := hc k hlt
      have i1 : (k : Int) < (n : Int) := by omega
      have HS := Lib.hid (fsum_step (p := p) (l := zs) (k := k) (by have := LX.out; omega))
      have hzk := hz (zs.getD k 0) (by rw [getI zs k (by have := LX.out; omega)]; exact List.getElem_mem ..)
      obtain ⟨z0, z1⟩ := hzk
      generalize fsum p (zs.take k) = s at *
      generalize zs.getD k 0 = y at *
      clear hc hz
      go_wp2_with fail
      go_round
      case rel => exact ⟨k + 1, by omega, by go_num, by rw [← HS.out]⟩
      case measure => simp [intOf]; omega
    · have hkn : k = n := by omega
      subst hkn
      have HT : Hid (fsum p (zs.take k) = fsum p zs) := by unfold Hid; rw [List.take_of_length_le (by have := LX.out; omega)]
      generalize fsum p (zs.take k) = s at *
      go_wp2_with fail
      go_ret
      exact ⟨retI HT.out, rfl⟩
set_option maxHeartbeats 400000 in
theorem implFSum_y (p : Int) (A : Option Addr) (n c : Nat) (zs : List Int) (w : World) (h : elemsB p zs = true) (hx : Ints w A n zs) (hn : n ≤ 4611686018427387903) :
    Calls Try.prog 92 #[.int .i64 p, .slice A n c] w fun e w' => e = .returned (.int .i64 (fsum p zs)) ∧ w = w' := by
  obtain ⟨hf, p2, p101, hz⟩ := elemsB_is h
  have HE := Lib.hid h
  have LX := Lib.hid hx.len
  have HX := Lib.hid hx
  clear h hf
  go_enter Try.func92, Try.ntmps92
  go_wp2_with fail


  refine (implareElements_c p A n c zs _ (by omega) (by omega) HX.out hn).mono ?_

  rintro e w1 ⟨rfl, rfl⟩
  rw [HE.out]
  go_wp2_with fail


  go_loop [5, 14] (fun z i => ∃ k : Nat, k ≤ n ∧ i = .int .i64 k ∧ z = .int .i64 (fsum p (zs.take k))) (fun _ i => n - (intOf i).toNat)

  case atStart => exact ⟨0, Nat.zero_le _, rfl, by simp [fsum]⟩
  case round =>
    obtain ⟨k, hk, rfl, rfl⟩ := hrel
    obtain ⟨s0, s1⟩ := fsum_rng p2 (zs.take k)
    by_cases hlt : k < n
    · obtain ⟨b, o, rfl, hb, hc⟩ := HX.out.at_ (by omega)
      have c0 := hc k hlt
      have i1 : (k : Int) < (n : Int) := by omega
      have HS := Lib.hid (fsum_step (p := p) (l := zs) (k := k) (by have := LX.out; omega))
      have hzk := hz (zs.getD k 0) (by rw [getI zs k (by have := LX.out; omega)]; exact List.getElem_mem ..)
      obtain ⟨z0, z1⟩ := hzk
      generalize fsum p (zs.take k) = s at *
      generalize zs.getD k 0 = y at *
      clear hc hz
      go_wp2_with fail
      go_round
      case rel => exact ⟨k + 1, by omega, by go_num, by rw [← HS.out]⟩
      case measure => simp [intOf]; omega
    · have hkn : k = n := by omega
      subst hkn
      have HT : Hid (fsum p (zs.take k) = fsum p zs) := by unfold Hid; rw [List.take_of_length_le (by have := LX.out; omega)]
      generalize fsum p (zs.take k) = s at *
      go_wp2_with fail
      go_ret
      exact ⟨retI HT.out, rfl⟩
end Go.Proofs.Ythncoohkdmjcaaa
