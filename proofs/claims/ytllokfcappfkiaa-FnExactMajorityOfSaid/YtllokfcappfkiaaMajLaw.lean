/-
  FnExactMajorityOf's walk.
-/
import Derived.Test.YtllokfcappfkiaaMajority
namespace Go.Proofs.Ytllokfcappfkiaa
open Go.RowKit
set_option linter.unusedVariables false
set_option maxHeartbeats 800000 in
theorem markIntSS_c (w : World) (lo : Nat) (A : Option Addr) (n c : Nat) (rows : List (List Int)) (vs : List Value) (k0 : Int) (h : OwnC w lo 31 1 (.slice A n c) n (rows.map ir) vs) (hn : n ≤ 1048576) (ht : tot rows n ≤ 1048576) (h0 : 0 ≤ k0) (h1 : k0 ≤ 1048576) :
    Calls Try.prog 80 #[.slice A n c, .int .i64 k0] w fun e w' => e = .returned (.int .i64 (k0 + tot rows n)) ∧ Chg (fun g => ∃ u ∈ vs, Value.ownBlock u = some g) w w' := by
  have HW := Lib.hid h
  have lv : vs.length = n := by have := h.outer.1; omega
  have lr : rows.length = n := by have := h.len; simp at this; omega
  have LV := Lib.hid lv
  have LR := Lib.hid lr
  clear h lv lr
  go_enter Try.func80, Try.ntmps80
  go_wp2_with fail
  go_loopw [1, 5] (fun s i wr => ∃ k : Nat, k ≤ n ∧ i = .int .i64 k ∧ s = .int .i64 (k0 + tot rows k) ∧ Hid (Chg (fun g => ∃ u ∈ vs, Value.ownBlock u = some g) w wr) ∧ Hid (wr.ownsRow lo 31 1 (.slice A n c) n vs) ∧ Hid (∀ (j : Nat) (cd : CD) (u : Value), k ≤ j → (rows.map ir)[j]? = some cd → vs[j]? = some u → cd.own wr lo u)) (fun _ i _ => n - (intOf i).toNat)
  case atStart => exact ⟨0, Nat.zero_le _, rfl, by rw [tot_zero]; go_num, Chg.refl _ _, HW.out.outer, fun j cd u _ hc hu => HW.out.inner j cd u hc hu⟩
  case round =>
    obtain ⟨k, hk, rfl, rfl, hch, hout, hinn⟩ := hrel
    by_cases hlt : k < n
    · obtain ⟨ad, he⟩ : ∃ g, A = some ⟨g, 0, none⟩ := by
        rcases hout.out.2 with ⟨h, h'⟩ | ⟨g, cap, cur, hv, _⟩
        · omega
        · injection hv with hv; exact ⟨g, hv⟩
      subst he
      have hkv : k < vs.length := by have := LV.out; omega
      have hkr : k < rows.length := by have := LR.out; omega
      have hu : vs[k]? = some vs[k] := List.getElem?_eq_getElem hkv
      have hcell := (hout.out.cellAt k (by omega)).trans hu
      have hr : (rows.map ir)[k]? = some (ir (rows.getD k [])) := by rw [List.getElem?_map, List.getD_eq_getElem?_getD, List.getElem?_eq_getElem hkr]; rfl
      have hown := hinn.out k _ _ (Nat.le_refl _) hr hu
      have HB := Lib.hid (List.mem_of_getElem? hu)
      have HOFF := Lib.hid (HW.out.off vs[k] (List.mem_of_getElem? hu))
      have HAP := Lib.hid (fun j x (hj : k < j) (hx : vs[j]? = some x) => HW.out.apart k j _ x hj hu hx)
      have HS := Lib.hid (tot_succ rows k hkr)
      have HM := Lib.hid (tot_mono rows (show k + 1 ≤ n by omega))
      have i1 : (k : Int) < (n : Int) := by omega
      have htk : tot rows k + (rows.getD k []).length ≤ 1048576 := by have := HS.out; have := HM.out; omega
      generalize rows.getD k [] = r at *
      generalize vs[k] = u at *
      unfold CD.own ir at hown
      obtain ⟨B, c', rfl, _, _⟩ := own_form hown
      have HO := Lib.hid hown
      clear hown hr hu
      generalize hrl : r.length = rl at *
      generalize htt : tot rows k = tk at *
      clear htt
      go_wp2_with fail
      refine (markIntS_c lo B rl c' r (k0 + tk) _ HO.out (by omega) (by omega) (by omega)).mono ?_
      rintro e w2 ⟨rfl, o2, h2⟩
      have hS : ∀ g, B.map (·.block) = some g → ∃ u ∈ vs, Value.ownBlock u = some g := fun g hg => ⟨_, HB.out, by rw [ownB]; exact hg⟩
      have C2 := Lib.hid (hch.out.trans (Chg.of h2 hS))
      have OUT := Lib.hid (own_grown hout.out h2 (by
        cases hb : Value.ownBlock _ with
        | none => exact .inl rfl
        | some g => exact .inr fun e => HOFF.out g hb (by rw [ownB]; exact e.symm)))
      have INN : Hid (∀ (j : Nat) (cd : CD) (u : Value), k + 1 ≤ j → (rows.map ir)[j]? = some cd → vs[j]? = some u → cd.own w2 lo u) := fun j cd x hj hc hx => by
        have h3 := hinn.out j cd x (by omega) hc hx
        exact CD.own_kept h3 (Chg.of (S := fun g => B.map (·.block) = some g) h2 fun g hg => hg) fun g hg hB => HAP.out j x (by omega) hx g (by rw [ownB]; exact hB) hg
      clear o2 h2 hout hinn hch HB HOFF HAP HO
      go_wp2_with fail
      go_roundw
      case rel => exact ⟨k + 1, by omega, by go_num, by rw [HS.out]; go_num, C2.out, OUT.out, INN.out⟩
      case measure => simp [intOf]; omega
    · have hkn : k = n := by omega
      subst hkn
      go_wp2_with fail
      go_ret
      exact ⟨rfl, hch.out⟩
theorem row_small {rows : List (List Int)} {n : Nat} (hl : rows.length = n) (h : n + tot rows n ≤ 1048576) (k : Nat) : (rows.getD k []).length ≤ 1048576 := by
  by_cases hk : k < n
  · have h1 := tot_succ rows k (by omega)
    have h2 := tot_mono rows (show k + 1 ≤ n by omega)
    omega
  · rw [List.getD_eq_getElem?_getD, List.getElem?_eq_none (by omega)]; simp
set_option maxHeartbeats 2000000 in
theorem FnExactMajorityOf.walk (w : World) (A : Option Addr) (n c : Nat) (rows : List (List Int)) (hx : Mat w A n rows) (hm : n ≤ maxLen) :
    Calls Try.prog 23 #[.slice A n c] w fun e w' => e = .returned (.bool true) ∧ w.grownBy w' none := by
  unfold maxLen at hm
  by_cases hbig : 1048576 < n + tot rows n
  · have HB := Lib.hid (szOut_no hbig)
    go_enter Try.func23, Try.ntmps23
    go_wp2_with fail
    refine (szIntSS_c A n c 1048576 rows _ hx (by omega) (by omega)).mono ?_
    rintro e w1 ⟨rfl, rfl⟩
    rw [HB.out]
    go_wp2_with fail
    go_ret
    exact ⟨rfl, gbR _ _⟩
  · have HB := Lib.hid (szOut_yes (l := 1048576) (m := n + tot rows n) (by omega))
    have HR := Lib.hid (fun k => row_small (mat_len hx) (by omega : n + tot rows n ≤ 1048576) k)
    have hn : n ≤ 1048576 := by omega
    have HT : Hid (tot rows n ≤ 1048576) := by unfold Hid; omega
    have htn : ¬ ((1048576 - (n + tot rows n) : Nat) : Int) < 0 := by omega
    have HX := Lib.hid hx
    have hsm := fun k => Nat.le_trans (HR.out k) (show 1048576 ≤ 1099511627776 by omega)
    have HSM := Lib.hid hsm
    have HL : Hid ((maj rows).2.length ≤ 1048576) := by
      unfold Hid maj
      split
      · split
        · exact HR.out _
        · simp
      · simp
    clear hx hsm hbig hm
    go_enter Try.func23, Try.ntmps23
    go_wp2_with fail
    refine (szIntSS_c A n c 1048576 rows _ HX.out (by omega) (by omega)).mono ?_
    rintro e w1 ⟨rfl, rfl⟩
    rw [HB.out]
    go_wp2_with fail
    refine (toIntSS_c A n c rows _ HX.out (by omega) HSM.out).mono ?_
    rintro e w1 ⟨ga, va, rfl, oa, h1⟩
    have OA := Lib.hid oa
    have G1 := Lib.hid h1
    clear oa h1
    go_wp2_with fail
    refine (specMajorityOf_c _ n n rows _ OA.out.rdc (by omega) HSM.out).mono ?_
    rintro e w2 ⟨v0, rfl, o2, h2⟩
    obtain ⟨A0, c0, rfl, _, _⟩ := own_form o2
    have O2 := Lib.hid o2
    have G2 := Lib.hid (gbT G1.out h2)
    have L2 := Lib.hid (gbT G1.out h2).size
    clear o2 h2 OA
    obtain ⟨⟨b0, xs⟩, hmaj⟩ : ∃ p, maj rows = p := ⟨_, rfl⟩
    rw [hmaj] at O2 HL ⊢
    have HMJ := Lib.hid hmaj
    clear hmaj
    simp only at O2 HL ⊢
    go_wp2_with fail
    refine (toIntSS_c A n c rows _ (RdC.grow HX.out G2.out) (by omega) HSM.out).mono ?_
    rintro e w3 ⟨gx, vx, rfl, ox, h3⟩
    have OX := Lib.hid ox
    have L3 := Lib.hid h3.size
    have O23 := Lib.hid (own_grow O2.out h3)
    have G3 := Lib.hid (gbT G2.out h3)
    clear ox h3
    go_wp2_with fail
    refine (implMajorityOf_c _ n n rows _ OX.out.rdc (by omega) HSM.out).mono ?_
    rintro e w4 ⟨v1, rfl, o4, h4⟩
    obtain ⟨A1, c1, rfl, _, _⟩ := own_form o4
    have O4 := Lib.hid o4
    have O24 := Lib.hid (own_grow O23.out h4)
    have OX4 := Lib.hid (OX.out.grow h4)
    have G4 := Lib.hid (gbT G3.out h4)
    clear o4 h4 O23
    rw [HMJ.out] at O4 ⊢
    simp only at O4 ⊢
    have SX : Hid (∀ g, (∃ u ∈ vx, Value.ownBlock u = some g) → w2.heap.size ≤ g ∧ g < w3.heap.size) := fun g ⟨u, hu, hg⟩ => OX.out.blocks u hu g hg
    have hL1 : xs.length ≤ 4611686018427387903 := by have := HL.out; omega
    clear OX
    go_wp2_with fail
    refine (eqIntS_c _ _ _ _ _ _ xs xs _ (Rd.ofOwn O4.out) (Rd.ofOwn O24.out) hL1 hL1).mono ?_
    rintro e w5 ⟨rfl, q, rfl⟩
    rw [beq_self_eq_true]
    go_wp2_with fail
    refine (toIntSS_c A n c rows _ (RdC.grow HX.out (gbDN G4.out q)) (by omega) HSM.out).mono ?_
    rintro e w5 ⟨gy, vy, rfl, oy, h5⟩
    have h5' : w4.grownBy w5 none := gbT (gbDN (gbR _ _) q) h5
    have OX5 := Lib.hid (OX4.out.grow h5')
    have OY := Lib.hid oy
    have O25 := Lib.hid (own_grow O24.out h5')
    have O45 := Lib.hid (own_grow O4.out h5')
    have G5 := Lib.hid (gbT G4.out h5')
    clear oy h5 h5' OX4
    go_wp2_with fail
    refine (eqIntSS_c _ _ n n n rows _ OX5.out.rdc OY.out.rdc (by omega) (fun k => Nat.le_trans (HSM.out k) (by omega))).mono ?_
    rintro e w6 ⟨rfl, h6⟩
    have OX6 := Lib.hid (OX5.out.grow h6)
    have O26 := Lib.hid (own_grow O25.out h6)
    have O46 := Lib.hid (own_grow O45.out h6)
    have G6 := Lib.hid (gbT G5.out h6)
    clear h6 OX5 OY
    go_wp2_with fail
    refine (markIntSS_c _ w2.heap.size _ n n rows vx 1 OX6.out hn HT.out (by omega) (by omega)).mono ?_
    rintro e w7 ⟨rfl, hch⟩
    have Z2 := Lib.hid G2.out.size
    have O27 := Lib.hid (Chg.own O26.out hch fun g hg hS => by
      have h1 := SX.out g hS
      have h2 := O2.out.lt g hg
      omega)
    have O47 := Lib.hid (Chg.own O46.out hch fun g hg hS => by
      have h1 := SX.out g hS
      have h2 := O4.out.lt g hg
      omega)
    have G7 := Lib.hid (Chg.new G6.out hch fun g hS => by
      have h1 := SX.out g hS
      have h2 := Z2.out
      omega)
    have hpos : ¬ (1 + ((tot rows n : Nat) : Int) < 0) := by omega
    have htot := HT.out
    clear hch OX6
    go_wp2_with fail
    refine (eqIntS_c _ _ _ _ _ _ xs xs _ (Rd.ofOwn O47.out) (Rd.ofOwn O27.out) hL1 hL1).mono ?_
    rintro e w8 ⟨rfl, q8, rfl⟩
    rw [beq_self_eq_true]
    go_wp2_with fail
    refine (markIntS_c _ _ _ _ xs 1 _ (own_grow O47.out (gbDN (gbR _ _) q8)) (by have := HL.out; omega) (by omega) (by omega)).mono ?_
    rintro e w8 ⟨rfl, o8, h8⟩
    have O8 := Lib.hid o8
    have hB : ∀ g, A1.map (·.block) = some g → w3.heap.size ≤ g := fun g hg => (O4.out.lt g (by rw [ownB]; exact hg)).1
    have sep : (Value.slice A0 xs.length c0).ownBlock = none ∨ (Value.slice A0 xs.length c0).ownBlock ≠ A1.map (·.block) := by
      cases hb : (Value.slice A0 xs.length c0).ownBlock with
      | none => exact .inl rfl
      | some g =>
        refine .inr fun e => ?_
        have h1 := hB g e.symm
        have h2 := O2.out.lt g hb
        have h5 := L3.out
        omega
    have O28 := Lib.hid (own_grown (own_grow O27.out (gbDN (gbR _ none) q8)) h8 sep)
    have G8 := Lib.hid (gbN (gbDN G7.out q8) h8 (fun g hg => by
      have h1 := hB g hg
      have h3 := G3.out.size
      omega))
    clear o8 h8 hB
    go_wp2_with fail
    refine (heldIntS_c _ _ _ 1 _ (Rd.ofOwn O8.out) (by have := HL.out; omega) (by omega) (by omega)).mono ?_
    rintro e w9 ⟨rfl, rfl⟩
    go_wp2_with fail
    refine (toIntSS_c A n c rows _ (RdC.grow HX.out G8.out) (by omega) HSM.out).mono ?_
    rintro e w9 ⟨gz, vz, rfl, oz, h9⟩
    have OZ := Lib.hid oz
    have H9 := Lib.hid h9
    clear oz h9
    go_wp2_with fail
    refine (implMajorityOf_c _ n n rows _ OZ.out.rdc (by omega) HSM.out).mono ?_
    rintro e w10 ⟨v10, rfl, o10, h10⟩
    obtain ⟨A10, c10, rfl, _, _⟩ := own_form o10
    have O10 := Lib.hid o10
    have H10 := Lib.hid (gbT H9.out h10)
    have O210 := Lib.hid (own_grow O28.out H10.out)
    have O810 := Lib.hid (own_grow O8.out H10.out)
    clear o10 h10 OZ
    rw [HMJ.out] at O10 ⊢
    simp only at O10 ⊢
    go_wp2_with fail
    refine (eqIntS_c _ _ _ _ _ _ xs xs _ (Rd.ofOwn O10.out) (Rd.ofOwn O210.out) hL1 hL1).mono ?_
    rintro e w11 ⟨rfl, q11, rfl⟩
    rw [beq_self_eq_true]
    go_wp2_with fail
    refine (heldIntS_c _ _ _ 1 _ (Rd.ofOwn (own_grow O810.out (gbDN (gbR _ _) q11))) (by have := HL.out; omega) (by omega) (by omega)).mono ?_
    rintro e w12 ⟨rfl, rfl⟩
    go_wp2_with fail
    go_ret
    exact ⟨rfl, gbDN (gbT G8.out H10.out) _⟩
end Go.Proofs.Ytllokfcappfkiaa
