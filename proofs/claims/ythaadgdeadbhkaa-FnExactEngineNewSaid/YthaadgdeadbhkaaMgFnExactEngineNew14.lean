/-
  FAdd, FSub, FMul, FSum: reference and program, on elements.
-/
import Derived.Test.YthaadgdeadbhkaaMgFnExactEngineNew13
import Derived.Test.YthaadgdeadbhkaaMgFnExactEngineNew12
namespace Go.Proofs.Ythaadgdeadbhkaa
open Go.RowKit
set_option linter.unusedVariables false
set_option linter.unusedSimpArgs false
theorem fsub_i {p a b : Int} : (a - b + p) % p = (a - b) % p := by rw [Int.add_emod_right]
theorem fsub_s {p a b : Int} : (a + p - b) % p = (a - b) % p := by rw [show a + p - b = a - b + p by omega, Int.add_emod_right]
set_option maxHeartbeats 400000 in
theorem specFAdd_y (p a b : Int) (w : World) (ha : elemB p a = true) (hb : elemB p b = true) :
    Calls Try.prog 143 #[.int .i64 p, .int .i64 a, .int .i64 b] w fun e w' => e = .returned (.int .i64 ((a + b) % p)) ∧ w.grownBy w' none := by
  obtain ⟨_, p2, p101, a0, a1⟩ := elemB_is ha
  obtain ⟨_, _, _, b0, b1⟩ := elemB_is hb
  have HA := Lib.hid ha
  have HB := Lib.hid hb
  clear ha hb
  go_enter Try.func143, Try.ntmps143
  go_wp2_with fail
  refine (specl03Both_c p a b _ (by omega)).mono ?_
  rintro e w1 ⟨rfl, rfl⟩
  rw [HA.out, HB.out, Bool.and_self]
  go_wp2_with fail
  go_ret
  exact ⟨rfl, gbR _ _⟩
set_option maxHeartbeats 400000 in
theorem implFAdd_y (p a b : Int) (w : World) (ha : elemB p a = true) (hb : elemB p b = true) :
    Calls Try.prog 67 #[.int .i64 p, .int .i64 a, .int .i64 b] w fun e w' => e = .returned (.int .i64 ((a + b) % p)) ∧ w.grownBy w' none := by
  obtain ⟨_, p2, p101, a0, a1⟩ := elemB_is ha
  obtain ⟨_, _, _, b0, b1⟩ := elemB_is hb
  have HE : Hid (elemsB p [a, b] = true) := by unfold Hid; rw [elemsB_two, ha, hb]; rfl
  clear ha hb
  go_enter Try.func67, Try.ntmps67
  go_wp2_with fail
  refine (implareElements_c p _ 2 2 [a, b] _ (by omega) (by omega) (ints2 w 3 a b) (by omega)).mono ?_
  rintro e w1 ⟨rfl, rfl⟩
  rw [HE.out]
  go_wp2_with fail
  go_ret
  exact ⟨rfl, gbA (gbR _ _) _⟩
set_option maxHeartbeats 400000 in
theorem specFSub_y (p a b : Int) (w : World) (ha : elemB p a = true) (hb : elemB p b = true) :
    Calls Try.prog 130 #[.int .i64 p, .int .i64 a, .int .i64 b] w fun e w' => e = .returned (.int .i64 ((a - b) % p)) ∧ w.grownBy w' none := by
  obtain ⟨_, p2, p101, a0, a1⟩ := elemB_is ha
  obtain ⟨_, _, _, b0, b1⟩ := elemB_is hb
  have HA := Lib.hid ha
  have HB := Lib.hid hb
  clear ha hb
  rw [← fsub_s]
  go_enter Try.func130, Try.ntmps130
  go_wp2_with fail
  refine (specl03Both_c p a b _ (by omega)).mono ?_
  rintro e w1 ⟨rfl, rfl⟩
  rw [HA.out, HB.out, Bool.and_self]
  go_wp2_with fail
  go_ret
  exact ⟨rfl, gbR _ _⟩
set_option maxHeartbeats 400000 in
theorem implFSub_y (p a b : Int) (w : World) (ha : elemB p a = true) (hb : elemB p b = true) :
    Calls Try.prog 134 #[.int .i64 p, .int .i64 a, .int .i64 b] w fun e w' => e = .returned (.int .i64 ((a - b) % p)) ∧ w.grownBy w' none := by
  obtain ⟨_, p2, p101, a0, a1⟩ := elemB_is ha
  obtain ⟨_, _, _, b0, b1⟩ := elemB_is hb
  have HE : Hid (elemsB p [a, b] = true) := by unfold Hid; rw [elemsB_two, ha, hb]; rfl
  clear ha hb
  rw [← fsub_i]
  go_enter Try.func134, Try.ntmps134
  go_wp2_with fail
  refine (implareElements_c p _ 2 2 [a, b] _ (by omega) (by omega) (ints2 w 3 a b) (by omega)).mono ?_
  rintro e w1 ⟨rfl, rfl⟩
  rw [HE.out]
  go_wp2_with fail
  go_ret
  exact ⟨rfl, gbA (gbR _ _) _⟩
set_option maxHeartbeats 400000 in
theorem specFMul_y (p a b : Int) (w : World) (ha : elemB p a = true) (hb : elemB p b = true) :
    Calls Try.prog 62 #[.int .i64 p, .int .i64 a, .int .i64 b] w fun e w' => e = .returned (.int .i64 ((a * b) % p)) ∧ w.grownBy w' none := by
  obtain ⟨_, p2, p101, a0, a1⟩ := elemB_is ha
  obtain ⟨_, _, _, b0, b1⟩ := elemB_is hb
  have HA := Lib.hid ha
  have HB := Lib.hid hb
  clear ha hb
  obtain ⟨m0, m1⟩ := prod_le a0 b0 (show a ≤ 101 by omega) (show b ≤ 101 by omega)
  go_enter Try.func62, Try.ntmps62
  go_wp2_with fail
  refine (specl03Both_c p a b _ (by omega)).mono ?_
  rintro e w1 ⟨rfl, rfl⟩
  rw [HA.out, HB.out, Bool.and_self]
  go_wp2_with fail
  go_ret
  exact ⟨rfl, gbR _ _⟩
set_option maxHeartbeats 400000 in
theorem implFMul_y (p a b : Int) (w : World) (ha : elemB p a = true) (hb : elemB p b = true) :
    Calls Try.prog 117 #[.int .i64 p, .int .i64 a, .int .i64 b] w fun e w' => e = .returned (.int .i64 ((a * b) % p)) ∧ w.grownBy w' none := by
  obtain ⟨_, p2, p101, a0, a1⟩ := elemB_is ha
  obtain ⟨_, _, _, b0, b1⟩ := elemB_is hb
  have HE : Hid (elemsB p [a, b] = true) := by unfold Hid; rw [elemsB_two, ha, hb]; rfl
  clear ha hb
  obtain ⟨m0, m1⟩ := prod_le a0 b0 (show a ≤ 101 by omega) (show b ≤ 101 by omega)
  go_enter Try.func117, Try.ntmps117
  go_wp2_with fail
  refine (implareElements_c p _ 2 2 [a, b] _ (by omega) (by omega) (ints2 w 3 a b) (by omega)).mono ?_
  rintro e w1 ⟨rfl, rfl⟩
  rw [HE.out]
  go_wp2_with fail
  go_ret
  exact ⟨rfl, gbA (gbR _ _) _⟩
def fsum (p : Int) (l : List Int) : Int := l.sum % p
theorem fsum_step {p : Int} {l : List Int} {k : Nat} (hk : k < l.length) : (fsum p (l.take k) + l.getD k 0) % p = fsum p (l.take (k + 1)) := by
  unfold fsum
  rw [take_snoc' l k hk, List.sum_append, Int.emod_add_emod]
  simp
theorem fsum_rng {p : Int} (hp : 2 ≤ p) (l : List Int) : 0 ≤ fsum p l ∧ fsum p l < p := ⟨Int.emod_nonneg _ (by omega), Int.emod_lt_of_pos _ (by omega)⟩
theorem fsum_elem {p : Int} (hf : fieldB p = true) (l : List Int) : elemB p (fsum p l) = true := by
  obtain ⟨h1, h2⟩ := field_range hf
  obtain ⟨h3, h4⟩ := fsum_rng h1 l
  exact elemB_mk hf h3 h4
theorem femod_elem {p : Int} (hf : fieldB p = true) (x : Int) : elemB p (x % p) = true := by
  obtain ⟨h1, h2⟩ := field_range hf
  exact elemB_mk hf (Int.emod_nonneg _ (by omega)) (Int.emod_lt_of_pos _ (by omega))
set_option maxHeartbeats 400000 in
theorem specFSum_y (p : Int) (A : Option Addr) (n c : Nat) (zs : List Int) (w : World) (h : elemsB p zs = true) (hx : Ints w A n zs) (hn : n ≤ 4611686018427387903) :
    Calls Try.prog 73 #[.int .i64 p, .slice A n c] w fun e w' => e = .returned (.int .i64 (fsum p zs)) ∧ w = w' := by
  obtain ⟨hf, p2, p101, hz⟩ := elemsB_is h
  have HE := Lib.hid h
  have LX := Lib.hid hx.len
  have HX := Lib.hid hx
  clear h hf
  go_enter Try.func73, Try.ntmps73
  go_wp2_with fail
  refine (specl03All_c p A n c zs _ (by omega) HX.out hn).mono ?_
  rintro e w1 ⟨rfl, rfl⟩
  rw [HE.out]
  go_wp2_with fail
  go_loop [5, 6] (fun z i => ∃ k : Nat, k ≤ n ∧ i = .int .i64 k ∧ z = .int .i64 (fsum p (zs.take k))) (fun _ i => n - (intOf i).toNat)
  case atStart => exact ⟨0, Nat.zero_le _, rfl, by simp [fsum]⟩
  case round =>
    obtain ⟨k, hk, rfl, rfl⟩ := hrel
    obtain ⟨s0, s1⟩ := fsum_rng p2 (zs.take k)
    by_cases hlt : k < n
    · obtain ⟨b, o, rfl, hb, hc⟩ := HX.out.at_ (by omega)
      have c0 := hc k hlt
      have i1 : (k : Int) < (n : Int) := by omega
      have HS := Lib.hid (fsum_step (p := p) (l := zs) (k := k) (by have := LX.out; omega))
      have hzk := hz (zs.getD k 0) (by rw [getI zs k (by have := LX.out; omega)]; exact List.getElem_mem ..)
      obtain ⟨z0, z1⟩ := hzk
      generalize fsum p (zs.take k) = s at *
      generalize zs.getD k 0 = y at *
      clear hc hz
      go_wp2_with fail
      go_round
      case rel => exact ⟨k + 1, by omega, by go_num, by rw [← HS.out]⟩
      case measure => simp [intOf]; omega
    · have hkn : k = n := by omega
      subst hkn
      have HT : Hid (fsum p (zs.take k) = fsum p zs) := by unfold Hid; rw [List.take_of_length_le (by have := LX.out; omega)]
      generalize fsum p (zs.take k) = s at *
      go_wp2_with fail
      go_ret
      exact ⟨retI HT.out, rfl⟩
set_option maxHeartbeats 400000 in
theorem implFSum_y (p : Int) (A : Option Addr) (n c : Nat) (zs : List Int) (w : World) (h : elemsB p zs = true) (hx : Ints w A n zs) (hn : n ≤ 4611686018427387903) :
    Calls Try.prog 118 #[.int .i64 p, .slice A n c] w fun e w' => e = .returned (.int .i64 (fsum p zs)) ∧ w = w' := by
  obtain ⟨hf, p2, p101, hz⟩ := elemsB_is h
  have HE := Lib.hid h
  have LX := Lib.hid hx.len
  have HX := Lib.hid hx
  clear h hf
  go_enter Try.func118, Try.ntmps118
  go_wp2_with fail
  refine (implareElements_c p A n c zs _ (by omega) (by omega) HX.out hn).mono ?_
  rintro e w1 ⟨rfl, rfl⟩
  rw [HE.out]
  go_wp2_with fail
  go_loop [5, 14] (fun z i => ∃ k : Nat, k ≤ n ∧ i = .int .i64 k ∧ z = .int .i64 (fsum p (zs.take k))) (fun _ i => n - (intOf i).toNat)
  case atStart => exact ⟨0, Nat.zero_le _, rfl, by simp [fsum]⟩
  case round =>
    obtain ⟨k, hk, rfl, rfl⟩ := hrel
    obtain ⟨s0, s1⟩ := fsum_rng p2 (zs.take k)
    by_cases hlt : k < n
    · obtain ⟨b, o, rfl, hb, hc⟩ := HX.out.at_ (by omega)
      have c0 := hc k hlt
      have i1 : (k : Int) < (n : Int) := by omega
      have HS := Lib.hid (fsum_step (p := p) (l := zs) (k := k) (by have := LX.out; omega))
      have hzk := hz (zs.getD k 0) (by rw [getI zs k (by have := LX.out; omega)]; exact List.getElem_mem ..)
      obtain ⟨z0, z1⟩ := hzk
      generalize fsum p (zs.take k) = s at *
      generalize zs.getD k 0 = y at *
      clear hc hz
      go_wp2_with fail
      go_round
      case rel => exact ⟨k + 1, by omega, by go_num, by rw [← HS.out]⟩
      case measure => simp [intOf]; omega
    · have hkn : k = n := by omega
      subst hkn
      have HT : Hid (fsum p (zs.take k) = fsum p zs) := by unfold Hid; rw [List.take_of_length_le (by have := LX.out; omega)]
      generalize fsum p (zs.take k) = s at *
      go_wp2_with fail
      go_ret
      exact ⟨retI HT.out, rfl⟩
end Go.Proofs.Ythaadgdeadbhkaa
/-
  Shares of an element: 'append(list, FSub(p, x, FSum(p, list))), next' and who calls it.
-/
namespace Go.Proofs.Ythaadgdeadbhkaa
open Go.RowKit
set_option linter.unusedVariables false
set_option linter.unusedSimpArgs false
def lit1X (H : Nat) (e : TypeId) (cs : Array Value) (v : Value) (w : World) : Prop := ∃ g, v = .slice (some ⟨g, 0, none⟩) 1 1 ∧ H ≤ g ∧ Blk w g e cs
theorem lit1X_st {H : Nat} {e : TypeId} {cs : Array Value} : stable (lit1X H e cs) := fun v w w' ⟨g, h1, h2, h3⟩ hg => ⟨g, h1, h2, h3.grow hg⟩
theorem chgDr {S : Nat → Prop} {w w' : World} (h : Chg S w.drew w') : Chg S w w' := ⟨h.os, h.tape, h.output, h.size, h.block⟩
def shareL (p x : Int) (L : List Int) : List Int := L ++ [(x - fsum p L) % p]
theorem shareL_len (p x : Int) (L : List Int) : (shareL p x L).length = L.length + 1 := by simp [shareL]
theorem shareL_elems {p x : Int} {L : List Int} (h : elemsB p L = true) : elemsB p (shareL p x L) = true := by
  obtain ⟨hf, p2, p101, hz⟩ := elemsB_is h
  refine elemsB_mk hf fun a ha => ?_
  rcases List.mem_append.1 ha with ha | ha
  · exact hz a ha
  · have : a = (x - fsum p L) % p := by simpa using ha
    subst this
    exact ⟨Int.emod_nonneg _ (by omega), Int.emod_lt_of_pos _ (by omega)⟩
theorem shareL_sum {p x : Int} {L : List Int} (h0 : 0 ≤ x) (h1 : x < p) : fsum p (shareL p x L) = x := by
  unfold fsum shareL
  rw [List.sum_append]
  simp only [List.sum_cons, List.sum_nil, Int.add_zero]
  rw [Int.add_emod_emod, show fsum p L = L.sum % p from rfl, ← Int.add_sub_assoc, Int.sub_emod_emod, show L.sum + x - L.sum = x by omega]
  exact Int.emod_eq_of_lt h0 h1
theorem elems_tape {P s a k : Nat} (hf : fieldB (P : Int) = true) (h0 : 0 < P) : elemsB (P : Int) (tapeL s a P k) = true := elemsB_mk hf fun z hz => tapeL_rng h0 z hz
theorem specl06Tape_yes (s a : Nat) (w : World) (hs : s < 4294967296) (ha : a ≤ 900000) :
    Calls Try.prog 80 #[.agg #[.int .i64 s, .int .i64 a]] w fun e w' => e = .returned (.bool true) ∧ w.grownBy w' none := by
  have d1 := Lib.hid (tape_yes hs (show a ≤ 1000000 by omega))
  have d2 : decide ((a : Int) ≤ 900000) = true := by simp; omega
  go_enter Try.func80, Try.ntmps80
  go_wp2_with fail
  refine (specTapeOk_c s a _).mono ?_
  rintro e w1 ⟨rfl, g1⟩
  rw [d1.out]
  have B1 := Blk.grow (Blk.new w 31 #[.int .i64 s, .int .i64 a]) g1
  have c0 := B1.cell 0
  have c1 := B1.cell 1
  simp at c0 c1
  have G1 := Lib.hid (gbT (gbA (gbR w none) _) g1)
  clear g1 B1
  go_wp2_with fail
  go_ret
  exact ⟨rfl, G1.out⟩
end Go.Proofs.Ythaadgdeadbhkaa
