/-
  OramPath: reference and program; its exact law.
-/
import Derived.Test.YthncoohkdmjcaaaMgFnSharedBits38
import Derived.Test.YthncoohkdmjcaaaMgFnSharedBits23
namespace Go.Proofs.Ythncoohkdmjcaaa
open Go.RowKit
set_option linter.unusedVariables false
set_option linter.unusedSimpArgs false
/-- From bucket n up to the root. -/
def chain (n : Nat) : List Int := if h : n = 0 then [0] else (n : Int) :: chain ((n - 1) / 2)
theorem chain_zero : chain 0 = [0] := by rw [chain]; simp
theorem chain_pos {n : Nat} (h : 0 < n) : chain n = (n : Int) :: chain ((n - 1) / 2) := by rw [chain, dif_neg (by omega)]
theorem chain_len : ∀ n : Nat, n ≤ 14 → (chain n).length ≤ 4 := by
  intro n hn
  have h : ∀ m, m ≤ 14 → m = 0 ∨ ((m - 1) / 2 = 0) ∨ (((m - 1) / 2 - 1) / 2 = 0) ∨ ((((m - 1) / 2 - 1) / 2 - 1) / 2 = 0) := by omega
  rw [chain]
  split
  · simp
  · rw [chain]
    split
    · simp
    · rw [chain]
      split
      · simp
      · rw [chain]
        have := h n hn
        rw [dif_pos (by omega)]
        simp
def opathI (leaf : Int) : List Int := (opath leaf).map fun n : Nat => (n : Int)
theorem opathI_yes {leaf : Int} (h0 : 0 ≤ leaf) (h1 : leaf ≤ 7) : opathI leaf = chain (leaf.toNat + 7) := by
  have hk : leaf = 0 ∨ leaf = 1 ∨ leaf = 2 ∨ leaf = 3 ∨ leaf = 4 ∨ leaf = 5 ∨ leaf = 6 ∨ leaf = 7 := by omega
  rcases hk with rfl | rfl | rfl | rfl | rfl | rfl | rfl | rfl <;> decide +kernel
theorem opathI_no {leaf : Int} (h : ¬ (0 ≤ leaf ∧ leaf ≤ 7)) : opathI leaf = [] := by simp [opathI, opath, h]
theorem opathI_len (leaf : Int) : (opathI leaf).length ≤ 4 := by
  unfold opathI opath
  split <;> simp
set_option maxHeartbeats 400000 in
theorem specOramPath_yes (leaf : Int) (w : World) (h0 : 0 ≤ leaf) (h1 : leaf ≤ 7) :
    Calls Try.prog 16 #[.int .i64 leaf] w fun e w' => ∃ v, e = .returned v ∧ w'.ownsRow w.heap.size 3 1 v (opathI leaf).length ((opathI leaf).map (Value.int .i64)) ∧ w.grownBy w' none := by
  obtain ⟨l, rfl⟩ := Int.eq_ofNat_of_zero_le h0
  have HP := Lib.hid (opathI_yes h0 h1)
  rw [Int.toNat_natCast] at HP
  have hl : l ≤ 7 := by omega
  go_enter Try.func16, Try.ntmps16
  go_wp2_with go_in
  go_loopw [3, 4] (fun s i wr => ∃ (d : List Int) (m : Nat), m ≤ 14 ∧ i = .int .i64 m ∧ Hid (d ++ chain m = chain (l + 7)) ∧ d.length ≤ 4 ∧ wr.ownsRow w.heap.size 3 1 s d.length (d.map (Value.int .i64)) ∧ w.grownBy wr none) (fun _ i _ => (intOf i).toNat)
  case atStart => exact ⟨[], l + 7, by omega, by go_num, rfl, by simp, World.ownsRow_made w #[] 0 (Nat.le_refl _) (by simp) rfl, gbA (gbR _ _) _⟩
  case round =>
    obtain ⟨d, m, hm, rfl, hd, hdl, hown, hg⟩ := hrel
    by_cases hlt : 0 < m
    · have i1 : (0 : Int) < (m : Int) := by omega
      go_wp2_with (at_builtin; refine wp_append1 wr el_int rfl (.tmp 14) (.tmp 16) rfl _ rfl (by simp [Value.oneCell']) w.heap.size _ d.length _ hown rfl rfl (by unfold maxLen; omega) (by omega) hg.size ?_; intro v' w1 hown1 hgrow)
      have h1 := Lib.hid (show w1.ownsRow w.heap.size 3 1 v' (d ++ [(m : Int)]).length ((d ++ [(m : Int)]).map (Value.int .i64)) by simpa using hown1)
      have h2 := Lib.hid (gbN hg hgrow fun g e => (hown.lt g e).1)
      have h3 : Hid (d ++ [(m : Int)] ++ chain ((m - 1) / 2) = chain (l + 7)) := by have := hd.out; rw [chain_pos hlt] at this; unfold Hid; rw [← this]; simp
      have h4 : (d ++ [(m : Int)]).length ≤ 4 := by
        have := congrArg List.length h3.out
        have h5 := chain_len (l + 7) (by omega)
        have h6 : 0 < (chain ((m - 1) / 2)).length := by rw [chain]; split <;> simp
        rw [List.length_append] at this
        omega
      clear hown1 hgrow hown hg
      go_wp2_with fail
      go_roundw
      case rel => exact ⟨d ++ [(m : Int)], (m - 1) / 2, by omega, by go_num, h3, h4, h1.out, h2.out⟩
      case measure => simp [intOf]; omega
    · have hm0 : m = 0 := by omega
      subst hm0
      go_wp2_with (at_builtin; refine wp_append1 wr el_int rfl (.tmp 21) (.tmp 22) rfl _ rfl (by simp [Value.oneCell']) w.heap.size _ d.length _ hown rfl rfl (by unfold maxLen; omega) (by omega) hg.size ?_; intro v' w1 hown1 hgrow)
      have h1 := Lib.hid (show w1.ownsRow w.heap.size 3 1 v' (d ++ [(0 : Int)]).length ((d ++ [(0 : Int)]).map (Value.int .i64)) by simpa using hown1)
      have h2 := Lib.hid (gbN hg hgrow fun g e => (hown.lt g e).1)
      have h3 : Hid (opathI l = d ++ [0]) := by have := hd.out; rw [chain_zero] at this; unfold Hid; rw [HP.out, this]
      clear hown1 hgrow hown hg
      go_wp2_with fail
      go_ret
      rw [h3.out]
      exact ⟨v', rfl, h1.out, h2.out⟩
theorem specOramPath_no (leaf : Int) (w : World) (h : ¬ (0 ≤ leaf ∧ leaf ≤ 7)) :
    Calls Try.prog 16 #[.int .i64 leaf] w fun e w' => ∃ v, e = .returned v ∧ w'.ownsRow w.heap.size 3 1 v (opathI leaf).length ((opathI leaf).map (Value.int .i64)) ∧ w.grownBy w' none := by
  rw [opathI_no h]
  by_cases h0 : 0 ≤ leaf
  · have h1 : decide (leaf ≤ 7) = false := by simp; omega
    clear h
    go_enter Try.func16, Try.ntmps16
    go_wp2_with go_in
    go_ret
    first
      | exact ⟨_, rfl, World.ownsRow_made w #[] 0 (Nat.le_refl _) (by simp) rfl, gbA (gbR _ _) _⟩
      | exact ⟨_, rfl, World.ownsRow_nil _ _ _ _, gbR _ _⟩
  · clear h
    go_enter Try.func16, Try.ntmps16
    go_wp2_with go_in
    go_ret
    first
      | exact ⟨_, rfl, World.ownsRow_made w #[] 0 (Nat.le_refl _) (by simp) rfl, gbA (gbR _ _) _⟩
      | exact ⟨_, rfl, World.ownsRow_nil _ _ _ _, gbR _ _⟩
theorem specOramPath_c (leaf : Int) (w : World) :
    Calls Try.prog 16 #[.int .i64 leaf] w fun e w' => ∃ v, e = .returned v ∧ w'.ownsRow w.heap.size 3 1 v (opathI leaf).length ((opathI leaf).map (Value.int .i64)) ∧ w.grownBy w' none := by
  by_cases h : 0 ≤ leaf ∧ leaf ≤ 7
  · exact specOramPath_yes leaf w h.1 h.2
  · exact specOramPath_no leaf w h
set_option maxHeartbeats 400000 in
theorem implOramPath_yes (leaf : Int) (w : World) (h0 : 0 ≤ leaf) (h1 : leaf ≤ 7) :
    Calls Try.prog 17 #[.int .i64 leaf] w fun e w' => ∃ v, e = .returned v ∧ w'.ownsRow w.heap.size 3 1 v (opathI leaf).length ((opathI leaf).map (Value.int .i64)) ∧ w.grownBy w' none := by
  obtain ⟨l, rfl⟩ := Int.eq_ofNat_of_zero_le h0
  have HP := Lib.hid (opathI_yes h0 h1)
  rw [Int.toNat_natCast] at HP
  have hl : l ≤ 7 := by omega
  go_enter Try.func17, Try.ntmps17
  go_wp2_with go_in
  go_loopw [3, 4] (fun s i wr => ∃ (d : List Int) (m : Nat), m ≤ 14 ∧ i = .int .i64 m ∧ Hid (d ++ chain m = chain (l + 7)) ∧ d.length ≤ 4 ∧ wr.ownsRow w.heap.size 3 1 s d.length (d.map (Value.int .i64)) ∧ w.grownBy wr none) (fun _ i _ => (intOf i).toNat)
  case atStart => exact ⟨[], l + 7, by omega, by go_num, rfl, by simp, World.ownsRow_made w #[] 0 (Nat.le_refl _) (by simp) rfl, gbA (gbR _ _) _⟩
  case round =>
    obtain ⟨d, m, hm, rfl, hd, hdl, hown, hg⟩ := hrel
    by_cases hlt : 0 < m
    · have i1 : (0 : Int) < (m : Int) := by omega
      go_wp2_with (at_builtin; refine wp_append1 wr el_int rfl (.tmp 16) (.tmp 18) rfl _ rfl (by simp [Value.oneCell']) w.heap.size _ d.length _ hown rfl rfl (by unfold maxLen; omega) (by omega) hg.size ?_; intro v' w1 hown1 hgrow)
      have h1 := Lib.hid (show w1.ownsRow w.heap.size 3 1 v' (d ++ [(m : Int)]).length ((d ++ [(m : Int)]).map (Value.int .i64)) by simpa using hown1)
      have h2 := Lib.hid (gbN hg hgrow fun g e => (hown.lt g e).1)
      have h3 : Hid (d ++ [(m : Int)] ++ chain ((m - 1) / 2) = chain (l + 7)) := by have := hd.out; rw [chain_pos hlt] at this; unfold Hid; rw [← this]; simp
      have h4 : (d ++ [(m : Int)]).length ≤ 4 := by
        have := congrArg List.length h3.out
        have h5 := chain_len (l + 7) (by omega)
        have h6 : 0 < (chain ((m - 1) / 2)).length := by rw [chain]; split <;> simp
        rw [List.length_append] at this
        omega
      clear hown1 hgrow hown hg
      go_wp2_with fail
      go_roundw
      case rel => exact ⟨d ++ [(m : Int)], (m - 1) / 2, by omega, by go_num, h3, h4, h1.out, h2.out⟩
      case measure => simp [intOf]; omega
    · have hm0 : m = 0 := by omega
      subst hm0
      go_wp2_with (at_builtin; refine wp_append1 wr el_int rfl (.tmp 20) (.tmp 21) rfl _ rfl (by simp [Value.oneCell']) w.heap.size _ d.length _ hown rfl rfl (by unfold maxLen; omega) (by omega) hg.size ?_; intro v' w1 hown1 hgrow)
      have h1 := Lib.hid (show w1.ownsRow w.heap.size 3 1 v' (d ++ [(0 : Int)]).length ((d ++ [(0 : Int)]).map (Value.int .i64)) by simpa using hown1)
      have h2 := Lib.hid (gbN hg hgrow fun g e => (hown.lt g e).1)
      have h3 : Hid (opathI l = d ++ [0]) := by have := hd.out; rw [chain_zero] at this; unfold Hid; rw [HP.out, this]
      clear hown1 hgrow hown hg
      go_wp2_with fail
      go_ret
      rw [h3.out]
      exact ⟨v', rfl, h1.out, h2.out⟩
theorem implOramPath_no (leaf : Int) (w : World) (h : ¬ (0 ≤ leaf ∧ leaf ≤ 7)) :
    Calls Try.prog 17 #[.int .i64 leaf] w fun e w' => ∃ v, e = .returned v ∧ w'.ownsRow w.heap.size 3 1 v (opathI leaf).length ((opathI leaf).map (Value.int .i64)) ∧ w.grownBy w' none := by
  rw [opathI_no h]
  by_cases h0 : 0 ≤ leaf
  · have h1 : decide (leaf ≤ 7) = false := by simp; omega
    clear h
    go_enter Try.func17, Try.ntmps17
    go_wp2_with go_in
    go_ret
    first
      | exact ⟨_, rfl, World.ownsRow_made w #[] 0 (Nat.le_refl _) (by simp) rfl, gbA (gbR _ _) _⟩
      | exact ⟨_, rfl, World.ownsRow_nil _ _ _ _, gbR _ _⟩
  · clear h
    go_enter Try.func17, Try.ntmps17
    go_wp2_with go_in
    go_ret
    first
      | exact ⟨_, rfl, World.ownsRow_made w #[] 0 (Nat.le_refl _) (by simp) rfl, gbA (gbR _ _) _⟩
      | exact ⟨_, rfl, World.ownsRow_nil _ _ _ _, gbR _ _⟩
theorem implOramPath_c (leaf : Int) (w : World) :
    Calls Try.prog 17 #[.int .i64 leaf] w fun e w' => ∃ v, e = .returned v ∧ w'.ownsRow w.heap.size 3 1 v (opathI leaf).length ((opathI leaf).map (Value.int .i64)) ∧ w.grownBy w' none := by
  by_cases h : 0 ≤ leaf ∧ leaf ≤ 7
  · exact implOramPath_yes leaf w h.1 h.2
  · exact implOramPath_no leaf w h
/-- What the law does with its results: marked, held, made again, held again. -/
theorem FnExactOramPath.core (leaf : Int) (xs : List Int) (k : Nat) (hk : k ≤ 1048576) (w : World)
    (hs : ∀ w, Calls Try.prog 16 #[.int .i64 leaf] w fun e w' => ∃ v, e = .returned v ∧ w'.ownsRow w.heap.size 3 1 v k (xs.map (Value.int .i64)) ∧ w.grownBy w' none)
    (hi : ∀ w, Calls Try.prog 17 #[.int .i64 leaf] w fun e w' => ∃ v, e = .returned v ∧ w'.ownsRow w.heap.size 3 1 v k (xs.map (Value.int .i64)) ∧ w.grownBy w' none) :
    Calls Try.prog 3 #[.int .i64 leaf] w fun e w' => e = .returned (.bool true) ∧ w.grownBy w' none := by
  have HS := Lib.hid hs
  have HI := Lib.hid hi
  clear hs hi
  go_enter Try.func3, Try.ntmps3
  go_wp2_with fail
  refine (HS.out _).mono ?_
  rintro e w1 ⟨v1, rfl, o1, g1⟩
  obtain ⟨A1, c1, rfl, _, _⟩ := own_form o1
  have K1 := Lib.hid o1
  go_wp2_with fail
  refine (HI.out _).mono ?_
  rintro e w2 ⟨v2, rfl, o2, g2⟩
  obtain ⟨A2, c2, rfl, hA2, _⟩ := own_form o2
  have O1 := Lib.hid (own_grow o1 g2)
  have O2 := Lib.hid o2
  have G2 := Lib.hid (gbT g1 g2)
  have Z := Lib.hid g1.size
  clear o1 o2 g1 g2
  go_wp2_with fail
  refine (eqIntS_c _ _ _ _ _ _ xs xs _ (Rd.ofOwn O2.out) (Rd.ofOwn O1.out) (by omega) (by omega)).mono ?_
  rintro e w3 ⟨rfl, q, rfl⟩
  rw [beq_self_eq_true]
  go_wp2_with fail
  refine (markIntS_c _ _ _ _ xs 1 _ (own_grow O2.out (gbDN (gbR _ _) q)) (by omega) (by omega) (by omega)).mono ?_
  rintro e w4 ⟨rfl, o4, g4⟩
  have O4 := Lib.hid o4
  have O14 := Lib.hid (own_grown (own_grow O1.out (gbDN (gbR _ _) q)) g4 (by rw [← ownB A2 k c2]; exact own_sep K1.out O2.out (Nat.le_refl _)))
  have G4 := Lib.hid (gbN (gbDN G2.out q) g4 (fun g hg => by
    rw [← ownB A2 k c2] at hg
    have := (O2.out.lt g hg).1
    have := Z.out
    omega))
  clear o4 g4
  go_wp2_with fail
  refine (heldIntS_c _ _ _ 1 _ (Rd.ofOwn O4.out) (by omega) (by omega) (by omega)).mono ?_
  rintro e w5 ⟨rfl, rfl⟩
  go_wp2_with fail
  refine (HI.out _).mono ?_
  rintro e w5 ⟨v5, rfl, o5, g5⟩
  obtain ⟨A5, c5, rfl, _, _⟩ := own_form o5
  have O5 := Lib.hid o5
  have G5 := Lib.hid g5
  clear o5 g5
  go_wp2_with fail
  refine (eqIntS_c _ _ _ _ _ _ xs xs _ (Rd.ofOwn O5.out) (Rd.ofOwn (own_grow O14.out G5.out)) (by omega) (by omega)).mono ?_
  rintro e w6 ⟨rfl, q2, rfl⟩
  rw [beq_self_eq_true]
  go_wp2_with fail
  refine (heldIntS_c _ _ _ 1 _ (Rd.ofOwn (own_grow O4.out (gbDN G5.out q2))) (by omega) (by omega) (by omega)).mono ?_
  rintro e w7 ⟨rfl, rfl⟩
  go_wp2_with fail
  go_ret
  exact ⟨rfl, gbT G4.out (gbDN G5.out q2)⟩
theorem FnExactOramPath.walk (w : World) (leaf : Int) (wl : (Lit.int .i64 leaf).wf = true) :
    Calls Try.prog 3 #[.int .i64 leaf] w fun e w' => e = .returned (.bool true) ∧ w.grownBy w' none :=
  FnExactOramPath.core leaf (opathI leaf) _ (by have := opathI_len leaf; omega) w (specOramPath_c leaf) (implOramPath_c leaf)
end Go.Proofs.Ythncoohkdmjcaaa
