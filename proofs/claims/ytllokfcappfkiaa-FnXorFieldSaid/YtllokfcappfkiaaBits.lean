/-
  BitsOf, ChosenBy, FieldOk, FieldBits: reference and program, and the laws that hold them together.
-/
import Derived.Test.YtllokfcappfkiaaZero
namespace Go.Proofs.Ytllokfcappfkiaa
open Go.RowKit
set_option linter.unusedVariables false

/-- Bit i of x. -/
def bitAt (x : Nat) (i : Nat) : Int := ((x / 2 ^ i % 2 : Nat) : Int)
def bitList (x n : Nat) : List Int := (List.range n).map (bitAt x)
theorem bitList_succ (x n : Nat) : bitList x (n + 1) = bitList x n ++ [bitAt x n] := by simp [bitList, List.range_succ]
theorem bitList_length (x n : Nat) : (bitList x n).length = n := by simp [bitList]
def bitsOf (x n : Int) : List Int := if 0 ≤ x ∧ 0 ≤ n ∧ n ≤ 32 then bitList x.toNat n.toNat else []
theorem bit_and (x k : Nat) : bits .and .i64 ((x : Int) / 2 ^ k) 1 = bitAt x k := by
  have e : ((x : Int) / 2 ^ k) = ((x / 2 ^ k : Nat) : Int) := by simp
  rw [e]
  unfold bitAt
  generalize x / 2 ^ k = y
  show IntKind.i64.wrap ((BitVec.ofInt 64 (y : Int) &&& BitVec.ofInt 64 1).toNat : Int) = _
  rw [BitVec.toNat_and, show (BitVec.ofInt 64 1).toNat = 1 from rfl, BitVec.ofInt_natCast, BitVec.toNat_ofNat, Nat.and_one_is_mod, IntKind.wrap_i64]
  omega
set_option maxHeartbeats 400000 in
theorem specBitsOf_yes (x n : Nat) (w : World) (h2 : n ≤ 32) (h4 : x ≤ 9223372036854775807) :
    Calls Try.prog 43 #[.int .i64 x, .int .i64 n] w fun e w' => ∃ v, e = .returned v ∧ w'.ownsRow w.heap.size 3 1 v n ((bitList x n).map (Value.int .i64)) ∧ w.grownBy w' none := by
  have hd : decide ((n : Int) ≤ 32) = true := by simp; omega
  have hx0 : ¬ (x : Int) < 0 := by omega
  go_enter Try.func43, Try.ntmps43
  go_wp2
  go_loopw [5, 6] (fun s i wr => ∃ k : Nat, k ≤ n ∧ i = .int .i64 k ∧ wr.ownsRow w.heap.size 3 1 s k ((bitList x k).map (Value.int .i64)) ∧ w.grownBy wr none) (fun _ i _ => n - (intOf i).toNat)
  case atStart => exact ⟨0, Nat.zero_le _, rfl, World.ownsRow_made w #[] 0 (Nat.le_refl _) (by simp) rfl, gbA (gbR _ _) _⟩
  case round =>
    obtain ⟨k, hk, rfl, hown, hg⟩ := hrel
    by_cases hlt : k < n
    · go_wp2_with (at_builtin; refine wp_append1 wr el_int rfl (.tmp 21) (.tmp 27) rfl _ rfl (by simp [Value.oneCell']) w.heap.size _ k _ hown rfl rfl (by unfold maxLen; omega) (by omega) hg.size ?_; intro v' w1 hown1 hgrow)
      have h1 := Lib.hid (show w1.ownsRow w.heap.size 3 1 v' (k + 1) ((bitList x (k + 1)).map (Value.int .i64)) by
        rw [bitList_succ, List.map_append]
        simpa [bit_and] using hown1)
      have h2 := Lib.hid (gbN hg hgrow fun g e => (hown.lt g e).1)
      clear hown1 hgrow hown hg
      go_wp2_with fail
      go_roundw
      case rel => exact ⟨k + 1, by omega, by go_num, h1.out, h2.out⟩
      case measure => simp [intOf]; omega
    · have hkn : k = n := by omega
      subst hkn
      go_wp2_with fail
      go_ret
      exact ⟨_, rfl, hown, hg⟩
set_option maxHeartbeats 400000 in
theorem implBitsOf_yes (x n : Nat) (w : World) (h2 : n ≤ 32) (h4 : x ≤ 9223372036854775807) :
    Calls Try.prog 44 #[.int .i64 x, .int .i64 n] w fun e w' => ∃ v, e = .returned v ∧ w'.ownsRow w.heap.size 3 1 v n ((bitList x n).map (Value.int .i64)) ∧ w.grownBy w' none := by
  have hd : decide ((n : Int) ≤ 32) = true := by simp; omega
  have hx0 : ¬ (x : Int) < 0 := by omega
  go_enter Try.func44, Try.ntmps44
  go_wp2
  go_loopw [5, 6] (fun s i wr => ∃ k : Nat, k ≤ n ∧ i = .int .i64 k ∧ wr.ownsRow w.heap.size 3 1 s k ((bitList x k).map (Value.int .i64)) ∧ w.grownBy wr none) (fun _ i _ => n - (intOf i).toNat)
  case atStart => exact ⟨0, Nat.zero_le _, rfl, World.ownsRow_made w #[] 0 (Nat.le_refl _) (by simp) rfl, gbA (gbR _ _) _⟩
  case round =>
    obtain ⟨k, hk, rfl, hown, hg⟩ := hrel
    by_cases hlt : k < n
    · go_wp2_with (at_builtin; refine wp_append1 wr el_int rfl (.tmp 20) (.tmp 25) rfl _ rfl (by simp [Value.oneCell']) w.heap.size _ k _ hown rfl rfl (by unfold maxLen; omega) (by omega) hg.size ?_; intro v' w1 hown1 hgrow)
      have h1 := Lib.hid (show w1.ownsRow w.heap.size 3 1 v' (k + 1) ((bitList x (k + 1)).map (Value.int .i64)) by
        rw [bitList_succ, List.map_append]
        simpa [bit_and] using hown1)
      have h2 := Lib.hid (gbN hg hgrow fun g e => (hown.lt g e).1)
      clear hown1 hgrow hown hg
      go_wp2_with fail
      go_roundw
      case rel => exact ⟨k + 1, by omega, by go_num, h1.out, h2.out⟩
      case measure => simp [intOf]; omega
    · have hkn : k = n := by omega
      subst hkn
      go_wp2_with fail
      go_ret
      exact ⟨_, rfl, hown, hg⟩
theorem specBitsOf_no (x n : Int) (w : World) (h : x < 0 ∨ n < 0 ∨ 32 < n) :
    Calls Try.prog 43 #[.int .i64 x, .int .i64 n] w fun e w' => ∃ v, e = .returned v ∧ w'.ownsRow w.heap.size 3 1 v 0 [] ∧ w.grownBy w' none := by
  have hr := World.ownsRow_made (e := 3) (size := 1) w #[] 0 (Nat.le_refl _) (by simp) rfl
  have HR := Lib.hid hr
  clear hr
  by_cases h1 : n ≤ 0
  · have h1' : ¬ 0 < n := by omega
    go_enter Try.func43, Try.ntmps43
    go_wp2
    refine wp_loop_rounds 1 ?_
    rw [rounds_succ]
    go_wp2
    go_ret
    exact ⟨_, rfl, HR.out, gbA (gbR _ _) _⟩
  · by_cases h2 : 32 < n
    · have h2' : decide (n ≤ 32) = false := by simp; omega
      have h1' : decide (0 < n) = true := by simp; omega
      go_enter Try.func43, Try.ntmps43
      go_wp2
      refine wp_loop_rounds 1 ?_
      rw [rounds_succ]
      go_wp2
      go_ret
      exact ⟨_, rfl, HR.out, gbA (gbR _ _) _⟩
    · have h3 : x < 0 := by omega
      have h3' : decide (0 ≤ x) = false := by simp; omega
      have h2' : decide (n ≤ 32) = true := by simp; omega
      have h1' : decide (0 < n) = true := by simp; omega
      go_enter Try.func43, Try.ntmps43
      go_wp2
      refine wp_loop_rounds 1 ?_
      rw [rounds_succ]
      go_wp2
      go_ret
      exact ⟨_, rfl, HR.out, gbA (gbR _ _) _⟩
theorem implBitsOf_no (x n : Int) (w : World) (h : x < 0 ∨ n < 0 ∨ 32 < n) :
    Calls Try.prog 44 #[.int .i64 x, .int .i64 n] w fun e w' => ∃ v, e = .returned v ∧ w'.ownsRow w.heap.size 3 1 v 0 [] ∧ w.grownBy w' none := by
  by_cases h1 : x < 0
  · go_enter Try.func44, Try.ntmps44
    go_wp2
    go_ret
    exact ⟨_, rfl, World.ownsRow_nil _ _ _ _, gbR _ _⟩
  · by_cases h2 : n < 0
    · go_enter Try.func44, Try.ntmps44
      go_wp2
      go_ret
      exact ⟨_, rfl, World.ownsRow_nil _ _ _ _, gbR _ _⟩
    · have h3 : 32 < n := by omega
      have hd : decide (n ≤ 32) = false := by simp; omega
      clear h
      go_enter Try.func44, Try.ntmps44
      go_wp2
      go_ret
      exact ⟨_, rfl, World.ownsRow_nil _ _ _ _, gbR _ _⟩

/-- What the law does with its results: marked, held, made again, held again. -/
theorem FnExactBitsOf.core (x n : Int) (xs : List Int) (k : Nat) (hk : k ≤ 32) (w : World)
    (hs : ∀ w, Calls Try.prog 43 #[.int .i64 x, .int .i64 n] w fun e w' => ∃ v, e = .returned v ∧ w'.ownsRow w.heap.size 3 1 v k (xs.map (Value.int .i64)) ∧ w.grownBy w' none)
    (hi : ∀ w, Calls Try.prog 44 #[.int .i64 x, .int .i64 n] w fun e w' => ∃ v, e = .returned v ∧ w'.ownsRow w.heap.size 3 1 v k (xs.map (Value.int .i64)) ∧ w.grownBy w' none) :
    Calls Try.prog 9 #[.int .i64 x, .int .i64 n] w fun e w' => e = .returned (.bool true) ∧ w.grownBy w' none := by
  have HS := Lib.hid hs
  have HI := Lib.hid hi
  clear hs hi
  go_enter Try.func9, Try.ntmps9
  go_wp2_with fail
  refine (HS.out _).mono ?_
  rintro e w1 ⟨v1, rfl, o1, g1⟩
  obtain ⟨A1, c1, rfl, _, _⟩ := own_form o1
  have K1 := Lib.hid o1
  go_wp2_with fail
  refine (HI.out _).mono ?_
  rintro e w2 ⟨v2, rfl, o2, g2⟩
  obtain ⟨A2, c2, rfl, hA2, _⟩ := own_form o2
  have O1 := Lib.hid (own_grow o1 g2)
  have O2 := Lib.hid o2
  have G2 := Lib.hid (gbT g1 g2)
  have Z := Lib.hid g1.size
  clear o1 o2 g1 g2
  go_wp2_with fail
  refine (eqIntS_c _ _ _ _ _ _ xs xs _ (Rd.ofOwn O2.out) (Rd.ofOwn O1.out) (by omega) (by omega)).mono ?_
  rintro e w3 ⟨rfl, q, rfl⟩
  rw [beq_self_eq_true]
  go_wp2_with fail
  refine (markIntS_c _ _ _ _ xs 1 _ (own_grow O2.out (gbDN (gbR _ _) q)) (by omega) (by omega) (by omega)).mono ?_
  rintro e w4 ⟨rfl, o4, g4⟩
  have O4 := Lib.hid o4
  have O14 := Lib.hid (own_grown (own_grow O1.out (gbDN (gbR _ _) q)) g4 (by rw [← ownB A2 k c2]; exact own_sep K1.out O2.out (Nat.le_refl _)))
  have G4 := Lib.hid (gbN (gbDN G2.out q) g4 (fun g hg => by
    rw [← ownB A2 k c2] at hg
    have := (O2.out.lt g hg).1
    have := Z.out
    omega))
  clear o4 g4
  go_wp2_with fail
  refine (heldIntS_c _ _ _ 1 _ (Rd.ofOwn O4.out) (by omega) (by omega) (by omega)).mono ?_
  rintro e w5 ⟨rfl, rfl⟩
  go_wp2_with fail
  refine (HI.out _).mono ?_
  rintro e w5 ⟨v5, rfl, o5, g5⟩
  obtain ⟨A5, c5, rfl, _, _⟩ := own_form o5
  have O5 := Lib.hid o5
  have G5 := Lib.hid g5
  clear o5 g5
  go_wp2_with fail
  refine (eqIntS_c _ _ _ _ _ _ xs xs _ (Rd.ofOwn O5.out) (Rd.ofOwn (own_grow O14.out G5.out)) (by omega) (by omega)).mono ?_
  rintro e w6 ⟨rfl, q2, rfl⟩
  rw [beq_self_eq_true]
  go_wp2_with fail
  refine (heldIntS_c _ _ _ 1 _ (Rd.ofOwn (own_grow O4.out (gbDN G5.out q2))) (by omega) (by omega) (by omega)).mono ?_
  rintro e w7 ⟨rfl, rfl⟩
  go_wp2_with fail
  go_ret
  exact ⟨rfl, gbT G4.out (gbDN G5.out q2)⟩
theorem FnExactBitsOf.walk (w : World) (x : Int) (wx : (Lit.int .i64 x).wf = true) (n : Int) (wn : (Lit.int .i64 n).wf = true) :
    Calls Try.prog 9 #[.int .i64 x, .int .i64 n] w fun e w' => e = .returned (.bool true) ∧ w.grownBy w' none := by
  have hx : x ≤ 9223372036854775807 := by
    exact (wf_i64 wx).2
  by_cases h : 0 ≤ x ∧ 0 ≤ n ∧ n ≤ 32
  · obtain ⟨h1, h2, h3⟩ := h
    obtain ⟨x, rfl⟩ := Int.eq_ofNat_of_zero_le h1
    obtain ⟨n, rfl⟩ := Int.eq_ofNat_of_zero_le h2
    exact FnExactBitsOf.core _ _ (bitList x n) n (by omega) w (fun w => specBitsOf_yes x n w (by omega) (by omega)) (fun w => implBitsOf_yes x n w (by omega) (by omega))
  · exact FnExactBitsOf.core _ _ [] 0 (by omega) w (fun w => specBitsOf_no x n w (by omega)) (fun w => implBitsOf_no x n w (by omega))
end Go.Proofs.Ytllokfcappfkiaa
