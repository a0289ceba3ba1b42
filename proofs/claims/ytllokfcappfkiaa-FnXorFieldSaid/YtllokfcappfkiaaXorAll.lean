/-
  XorAll: reference and program, and its exact law.
-/
import Derived.Test.YtllokfcappfkiaaXor
namespace Go.Proofs.Ytllokfcappfkiaa
open Go.RowKit
set_option linter.unusedVariables false
theorem xorTo_elem {p : Int} (zs : List Int) (hf : fieldB p = true) (k : Nat) : elemB p (xorTo p zs k) = true := by
  have := field_range hf
  have h := xorTo_rng p zs (by omega) k
  exact elemB_mk hf h.1 h.2
theorem elemB_of {p : Int} {zs : List Int} (h : elemsB p zs = true) {k : Nat} (hk : k < zs.length) : elemB p (zs.getD k 0) = true := by
  have h1 := elemsB_is h
  have h2 := h1.2.2.2 zs[k] (List.getElem_mem hk)
  rw [getI zs k hk]
  exact elemB_mk h1.1 h2.1 h2.2
theorem specXorAll_no (p : Int) (A : Option Addr) (n c : Nat) (zs : List Int) (w : World) (hp0 : -9223372036854775808 ≤ p) (hp : p ≤ 9223372036854775807) (hx : Ints w A n zs) (hn : n ≤ 4611686018427387903) (h : elemsB p zs = false) :
    Calls Try.prog 75 #[.int .i64 p, .slice A n c] w fun e w' => e = .returned (.int .i64 (-1)) ∧ w.grownBy w' none := by
  have H := Lib.hid h
  clear h
  go_enter Try.func75, Try.ntmps75
  go_wp2_with fail
  first
    | refine (specl03All_c p A n c zs _ hp hp0 hx hn).mono ?_
    | refine (specl03All_c p A n c zs _ hp hx hn).mono ?_
  rintro e w1 ⟨rfl, rfl⟩
  rw [H.out]
  go_wp2_with fail
  go_ret
  exact ⟨rfl, gbR _ _⟩
set_option maxHeartbeats 400000 in
theorem specXorAll_yes (p : Int) (A : Option Addr) (n c : Nat) (zs : List Int) (w : World) (hx : Ints w A n zs) (hn : n ≤ 4611686018427387903) (h : elemsB p zs = true) :
    Calls Try.prog 75 #[.int .i64 p, .slice A n c] w fun e w' => e = .returned (.int .i64 (xorTo p zs n)) ∧ w.grownBy w' none := by
  have LX := Lib.hid hx.len
  obtain ⟨hf, p2, p101, _⟩ := elemsB_is h
  have H := Lib.hid h
  have HF := Lib.hid hf
  clear h hf
  go_enter Try.func75, Try.ntmps75
  go_wp2_with fail
  first
    | refine (specl03All_c p A n c zs _ (by omega) (by omega) hx hn).mono ?_
    | refine (specl03All_c p A n c zs _ (by omega) hx hn).mono ?_
  rintro e w1 ⟨rfl, rfl⟩
  rw [H.out]
  go_wp2_with fail
  go_loopw [5, 6] (fun s i wr => ∃ k : Nat, k ≤ n ∧ i = .int .i64 k ∧ s = .int .i64 (xorTo p zs k) ∧ Hid (w.grownBy wr none)) (fun _ i _ => n - (intOf i).toNat)
  case atStart => exact ⟨0, Nat.zero_le _, rfl, rfl, gbR _ _⟩
  case round =>
    obtain ⟨k, hk, rfl, rfl, hg⟩ := hrel
    have HXT := Lib.hid (xorTo_elem zs HF.out k)
    by_cases hlt : k < n
    · obtain ⟨b, o, rfl, hb, c1⟩ := (hx.grow hg.out).cell hlt
      have i1 : (k : Int) < (n : Int) := by omega
      have HS : Hid (xorTo p zs (k + 1) = xorF p (xorTo p zs k) (zs.getD k 0)) := rfl
      have HEL := Lib.hid (elemB_of H.out (show k < zs.length by have := LX.out; omega))
      generalize xorTo p zs k = x at *
      generalize zs.getD k 0 = z at *
      go_wp2_with fail
      refine (specXorField_yes p x z _ HXT.out HEL.out).mono ?_
      rintro e w2 ⟨rfl, h2⟩
      have G2 := Lib.hid (gbT hg.out h2)
      clear h2 hg
      go_wp2_with fail
      go_roundw
      case rel => exact ⟨k + 1, by omega, by go_num, by rw [HS.out], G2.out⟩
      case measure => simp [intOf]; omega
    · have hkn : k = n := by omega
      subst hkn
      go_wp2_with fail
      go_ret
      exact ⟨rfl, hg.out⟩
theorem implXorAll_no (p : Int) (A : Option Addr) (n c : Nat) (zs : List Int) (w : World) (hp0 : -9223372036854775808 ≤ p) (hp : p ≤ 9223372036854775807) (hx : Ints w A n zs) (hn : n ≤ 4611686018427387903) (h : elemsB p zs = false) :
    Calls Try.prog 72 #[.int .i64 p, .slice A n c] w fun e w' => e = .returned (.int .i64 (-1)) ∧ w.grownBy w' none := by
  have H := Lib.hid h
  clear h
  go_enter Try.func72, Try.ntmps72
  go_wp2_with fail
  first
    | refine (implareElements_c p A n c zs _ hp hp0 hx hn).mono ?_
    | refine (implareElements_c p A n c zs _ hp hx hn).mono ?_
  rintro e w1 ⟨rfl, rfl⟩
  rw [H.out]
  go_wp2_with fail
  go_ret
  exact ⟨rfl, gbR _ _⟩
set_option maxHeartbeats 400000 in
theorem implXorAll_yes (p : Int) (A : Option Addr) (n c : Nat) (zs : List Int) (w : World) (hx : Ints w A n zs) (hn : n ≤ 4611686018427387903) (h : elemsB p zs = true) :
    Calls Try.prog 72 #[.int .i64 p, .slice A n c] w fun e w' => e = .returned (.int .i64 (xorTo p zs n)) ∧ w.grownBy w' none := by
  have LX := Lib.hid hx.len
  obtain ⟨hf, p2, p101, _⟩ := elemsB_is h
  have H := Lib.hid h
  have HF := Lib.hid hf
  clear h hf
  go_enter Try.func72, Try.ntmps72
  go_wp2_with fail
  first
    | refine (implareElements_c p A n c zs _ (by omega) (by omega) hx hn).mono ?_
    | refine (implareElements_c p A n c zs _ (by omega) hx hn).mono ?_
  rintro e w1 ⟨rfl, rfl⟩
  rw [H.out]
  go_wp2_with fail
  go_loopw [5, 14] (fun s i wr => ∃ k : Nat, k ≤ n ∧ i = .int .i64 k ∧ s = .int .i64 (xorTo p zs k) ∧ Hid (w.grownBy wr none)) (fun _ i _ => n - (intOf i).toNat)
  case atStart => exact ⟨0, Nat.zero_le _, rfl, rfl, gbR _ _⟩
  case round =>
    obtain ⟨k, hk, rfl, rfl, hg⟩ := hrel
    have HXT := Lib.hid (xorTo_elem zs HF.out k)
    by_cases hlt : k < n
    · obtain ⟨b, o, rfl, hb, c1⟩ := (hx.grow hg.out).cell hlt
      have i1 : (k : Int) < (n : Int) := by omega
      have HS : Hid (xorTo p zs (k + 1) = xorF p (xorTo p zs k) (zs.getD k 0)) := rfl
      have HEL := Lib.hid (elemB_of H.out (show k < zs.length by have := LX.out; omega))
      generalize xorTo p zs k = x at *
      generalize zs.getD k 0 = z at *
      go_wp2_with fail
      refine (implXorField_yes p x z _ HXT.out HEL.out).mono ?_
      rintro e w2 ⟨rfl, h2⟩
      have G2 := Lib.hid (gbT hg.out h2)
      clear h2 hg
      go_wp2_with fail
      go_roundw
      case rel => exact ⟨k + 1, by omega, by go_num, by rw [HS.out], G2.out⟩
      case measure => simp [intOf]; omega
    · have hkn : k = n := by omega
      subst hkn
      go_wp2_with fail
      go_ret
      exact ⟨rfl, hg.out⟩
theorem FnExactXorAll.core (p : Int) (A : Option Addr) (n c : Nat) (zs : List Int) (r : Int) (w : World) (hx : Ints w A n zs) (hn : n ≤ 1048576)
    (hs : ∀ (w : World) (A : Option Addr) (c : Nat), Ints w A n zs → Calls Try.prog 75 #[.int .i64 p, .slice A n c] w fun e w' => e = .returned (.int .i64 r) ∧ w.grownBy w' none)
    (hi : ∀ (w : World) (A : Option Addr) (c : Nat), Ints w A n zs → Calls Try.prog 72 #[.int .i64 p, .slice A n c] w fun e w' => e = .returned (.int .i64 r) ∧ w.grownBy w' none) :
    Calls Try.prog 21 #[.int .i64 p, .slice A n c] w fun e w' => e = .returned (.bool true) ∧ w.grownBy w' none := by
  have HS := Lib.hid hs
  have HI := Lib.hid hi
  clear hs hi
  have hb : ¬ (1048576 : Int) < (n : Int) := by omega
  go_enter Try.func21, Try.ntmps21
  go_wp2_with fail
  refine (toIntS_c A n c zs _ hx (by omega)).mono ?_
  rintro e w1 ⟨g1, rfl, o1, h1⟩
  go_wp2_with fail
  refine (HS.out _ _ _ (Rd.ofOwn o1)).mono ?_
  rintro e w2 ⟨rfl, h2⟩
  have G2 := Lib.hid (gbT h1 h2)
  clear h1 h2 o1
  go_wp2_with fail
  refine (toIntS_c A n c zs _ (hx.grow G2.out) (by omega)).mono ?_
  rintro e w3 ⟨g3, rfl, o3, h3⟩
  have O3 := Lib.hid o3
  have G3 := Lib.hid (gbT G2.out h3)
  clear o3 h3
  go_wp2_with fail
  refine (HI.out _ _ _ (Rd.ofOwn O3.out)).mono ?_
  rintro e w4 ⟨rfl, h4⟩
  have O4 := Lib.hid (own_grow O3.out h4)
  have G4 := Lib.hid (gbT G3.out h4)
  clear h4
  go_wp2_with fail
  refine (toIntS_c A n c zs _ (hx.grow G4.out) (by omega)).mono ?_
  rintro e w5 ⟨g5, rfl, o5, h5⟩
  have O5 := Lib.hid o5
  have O45 := Lib.hid (own_grow O4.out h5)
  have G5 := Lib.hid (gbT G4.out h5)
  clear o5 h5
  go_wp2_with fail
  refine (eqIntS_c _ _ _ _ _ _ zs zs _ (Rd.ofOwn O45.out) (Rd.ofOwn O5.out) (by omega) (by omega)).mono ?_
  rintro e w6 ⟨rfl, q, rfl⟩
  rw [beq_self_eq_true]
  go_wp2_with fail
  go_ret
  exact ⟨rfl, gbDN G5.out _⟩
theorem FnExactXorAll.walk (w : World) (p : Int) (wp : (Lit.int .i64 p).wf = true) (A : Option Addr) (n c : Nat) (zs : List Int) (hz : IntsK .i64 w A n zs) (hm : n ≤ maxLen) :
    Calls Try.prog 21 #[.int .i64 p, .slice A n c] w fun e w' => e = .returned (.bool true) ∧ w.grownBy w' none := by
  have hp := wf_i64 wp
  obtain ⟨hp0, hp1⟩ := hp
  have hx := hz.ints
  clear hz wp
  by_cases hbig : 1048576 < n
  · unfold maxLen at hm
    have hb : (1048576 : Int) < (n : Int) := by omega
    go_enter Try.func21, Try.ntmps21
    go_wp2_with fail
    go_ret
    exact ⟨rfl, gbR _ _⟩
  · cases hf : elemsB p zs with
    | true => exact FnExactXorAll.core p A n c zs _ w hx (by omega) (fun w A c hx => specXorAll_yes p A n c zs w hx (by omega) hf) (fun w A c hx => implXorAll_yes p A n c zs w hx (by omega) hf)
    | false => exact FnExactXorAll.core p A n c zs _ w hx (by omega) (fun w A c hx => specXorAll_no p A n c zs w hp0 hp1 hx (by omega) hf) (fun w A c hx => implXorAll_no p A n c zs w hp0 hp1 hx (by omega) hf)
end Go.Proofs.Ytllokfcappfkiaa
