/-
  FnXorField's walk.
-/
import Derived.Test.YtllokfcappfkiaaPrime
import Derived.Deep.DeepCutAuto
namespace Go.Proofs.Ytllokfcappfkiaa
open Go.RowKit
set_option linter.unusedVariables false
theorem xor01 {p a b : Int} (hp : 2 ≤ p) (ha : 0 ≤ a ∧ a ≤ 1) (hb : 0 ≤ b ∧ b ≤ 1) : bits .xor .i64 a b = xorF p a b ∧ 0 ≤ xorF p a b ∧ xorF p a b ≤ 1 := by
  have h1 : xorF p a b = a + b - 2 * a * b := by
    unfold xorF
    rcases (show a = 0 ∨ a = 1 by omega) with rfl | rfl <;> rcases (show b = 0 ∨ b = 1 by omega) with rfl | rfl <;> exact Int.emod_eq_of_lt (by omega) (by omega)
  rw [h1]
  rcases (show a = 0 ∨ a = 1 by omega) with rfl | rfl <;> rcases (show b = 0 ∨ b = 1 by omega) with rfl | rfl <;> decide
theorem xorTo01 {p : Int} (hp : 2 ≤ p) {zs : List Int} (h : ∀ j, 0 ≤ zs.getD j 0 ∧ zs.getD j 0 ≤ 1) : ∀ k, 0 ≤ xorTo p zs k ∧ xorTo p zs k ≤ 1
  | 0 => by simp [xorTo]
  | k + 1 => (xor01 hp (xorTo01 hp h k) (h k)).2
theorem xorTo_take (p : Int) (zs : List Int) (n : Nat) : ∀ k, k ≤ n → xorTo p (zs.take n) k = xorTo p zs k
  | 0, _ => rfl
  | k + 1, h => by
    have e : (zs.take n).getD k 0 = zs.getD k 0 := by rw [List.getD_eq_getElem?_getD, List.getD_eq_getElem?_getD, List.getElem?_take, if_pos (by omega)]
    rw [xorTo, xorTo, xorTo_take p zs n k (by omega), e]
/-- The bits that the law takes out of the places. -/
def eight (qs : List Int) : List Int := (List.range 8).map fun i => qs.getD (1 + i) 0 % 2
theorem eight_at (qs : List Int) (k : Nat) (h : k < 8) : (eight qs).getD k 0 = qs.getD (1 + k) 0 % 2 := by simp [eight, List.getD_eq_getElem?_getD, h]
theorem eight_len (qs : List Int) : (eight qs).length = 8 := by simp [eight]
theorem eight01 (qs : List Int) (j : Nat) : 0 ≤ (eight qs).getD j 0 ∧ (eight qs).getD j 0 ≤ 1 := by
  by_cases h : j < 8
  · rw [eight_at qs j h]; omega
  · rw [List.getD_eq_getElem?_getD, List.getElem?_eq_none (by rw [eight_len]; omega)]; simp
theorem take_snoc' (zs : List Int) (k : Nat) (h : k < zs.length) : zs.take (k + 1) = zs.take k ++ [zs.getD k 0] := by
  rw [List.take_succ_eq_append_getElem h, getI zs k h]
def isNil : Value → World → Prop := fun v _ => ∃ A, v = .slice A 0 0
theorem isNil_st : stable isNil := fun _ _ _ h _ => h
theorem ints_nil_c {p : Int} {zs : List Int} (hf : fieldB p = true) : elemsB p [] = true := elemsB_mk hf fun a ha => by cases ha
set_option maxRecDepth 20000 in
set_option maxHeartbeats 2000000 in
theorem FnXorField.walk (w : World) (A : Option Addr) (n c : Nat) (zs : List Int) (hz : IntsK .u8 w A n zs) (hm : n ≤ maxLen) :
    Calls Try.prog 19 #[.slice A n c] w fun e w' => e = .returned (.bool true) ∧ w.grownBy w' none := by
  unfold maxLen at hm
  by_cases hbig : 1048576 < n
  · have hd : decide (1048576 < n) = true := by simp; omega
    go_enter Try.func19, Try.ntmps19
    go_wp2_with fail
    refine (big_c _ A n c (by omega)).mono ?_
    rintro e w1 ⟨rfl, rfl⟩
    go_wp2_with fail
    go_ret
    exact ⟨rfl, gbR _ _⟩
  · have hd : decide (1048576 < n) = false := by simp; omega
    have H := Lib.hid (bytesIn hz (by omega))
    clear hz
    go_enter Try.func19, Try.ntmps19
    go_wp2_with fail
    refine (big_c _ A n c (by omega)).mono ?_
    rintro e w1 ⟨rfl, rfl⟩
    rw [hd]
    go_wp2_with fail
    refine (DrawPrime_c _ A n c zs H.out).mono ?_
    rintro e w1 ⟨p, rfl, hp, hg1⟩
    have hf := nine_field p hp
    obtain ⟨p2, p101⟩ := field_range hf
    have HF := Lib.hid hf
    have G1 := Lib.hid hg1
    clear hp hf hg1
    go_wp2_with fail
    refine (DrawPlaces_c _ A n c zs (H.out.grow G1.out)).mono ?_
    rintro e w2 ⟨v, qs, rfl, hown, hq, hg⟩
    obtain ⟨B, d, rfl, _, _⟩ := own_form hown
    have HI := Lib.hid (show Ints w2 B 12 qs from Rd.ofOwn hown)
    obtain ⟨b, o, rfl, hb, hc⟩ := HI.out.at_ (by omega)
    have q0 := hq.at_ 0 (by omega)
    have HQ := Lib.hid hq
    have G := Lib.hid (gbT G1.out hg)
    have G2 := Lib.hid (gbA (gbT G1.out hg) (.cells #[] 3))
    have HI2 := Lib.hid (HI.out.grow (gbA (gbR _ none) (.cells #[] 3)))
    have HO := Lib.hid (World.ownsRow_made (e := 3) (size := 1) (base := w2.heap.size) w2 #[] 0 (Nat.le_refl _) (by simp) rfl)
    clear hown hc hg hq
    obtain ⟨q00, q01⟩ := q0
    obtain ⟨N, hN⟩ : ∃ N : Nat, 1 + qs.getD 0 0 % 8 = (N : Int) := ⟨(1 + qs.getD 0 0 % 8).toNat, by omega⟩
    have hN8 : 1 ≤ N ∧ N ≤ 8 := by omega
    obtain ⟨hN1, hN8⟩ := hN8
    have HN := Lib.hid hN
    clear hN
    go_wp2_with fail
    go_loopw [5, 6, 7] (fun s x i wr => ∃ k : Nat, k ≤ N ∧ i = .int .i64 k ∧ x = .int .i64 (xorTo p (eight qs) k) ∧ Hid (wr.ownsRow w2.heap.size 3 1 s k (((eight qs).take k).map (Value.int .i64))) ∧ Hid (Ints wr (some ⟨b, o, none⟩) 12 qs) ∧ Hid (w2.grownBy wr none)) (fun _ _ i _ => N - (intOf i).toNat)
    case atStart => exact ⟨0, Nat.zero_le _, rfl, rfl, HO.out, HI2.out, gbA (gbR _ _) _⟩
    case round =>
      obtain ⟨k, hk, rfl, rfl, hown, hin, hg2⟩ := hrel
      obtain ⟨_, _, e', _, hc⟩ := hin.out.at_ (by omega)
      injection e' with e'
      injection e' with e1 e2
      subst e1; subst e2
      have c0 := hc 0 (by omega)
      rw [Nat.add_zero] at c0
      have x01 := xorTo01 p2 (eight01 qs) k
      by_cases hlt : k < N
      · have c1 := hc (1 + k) (by omega)
        obtain ⟨q10, q11⟩ := HQ.out.at_ (1 + k) (by omega)
        have E8 := eight_at qs k (by omega)
        have E01 := eight01 qs k
        have HX := Lib.hid (xor01 p2 x01 E01)
        have HS : Hid (xorTo p (eight qs) (k + 1) = xorF p (xorTo p (eight qs) k) ((eight qs).getD k 0)) := rfl
        have HT := Lib.hid (take_snoc' (eight qs) k (by rw [eight_len]; omega))
        rw [E8] at HX HS HT
        have hcond : (k : Int) < 1 + qs.getD 0 0 % 8 := by have := HN.out; omega
        generalize qs.getD 0 0 = y0 at *
        generalize qs.getD (1 + k) 0 = y at *
        generalize xorTo p (eight qs) k = x at *
        clear E8 E01 hc
        have eX : bits .xor .i64 x (y % 2) = xorF p x (y % 2) := HX.out.1
        go_wp2_with (at_builtin; refine wp_append1 wr el_int rfl (.tmp 24) (.tmp 31) rfl _ rfl (by simp [Value.oneCell']) w2.heap.size _ k _ hown.out rfl rfl (by unfold maxLen; omega) (by omega) hg2.out.size ?_; intro v' w3 hown1 hgrow; have c2 : w3.cell? ⟨b, o + (1 + k), none⟩ = some (.int .i64 y) := (gbCell hgrow (p := ⟨b, o + (1 + k), none⟩) (by have := hg2.out.size; simp; omega) (fun e => by have := (hown.out.lt _ e.symm).1; simp at this; omega)).trans c1)
        have h1 := Lib.hid (show w3.ownsRow w2.heap.size 3 1 v' (k + 1) (((eight qs).take (k + 1)).map (Value.int .i64)) by
          rw [HT.out, List.map_append]
          simpa using hown1)
        have h2 := Lib.hid (gbN hg2.out hgrow fun g e => (hown.out.lt g e).1)
        have h3 := Lib.hid (hin.out.grown hgrow (fun a ha e => by injection ha with ha; subst ha; have := (hown.out.lt _ e.symm).1; simp at this; omega))
        clear hown1 hgrow hown hin
        go_wp2_with fail
        go_roundw
        case rel => exact ⟨k + 1, by omega, by go_num, by rw [HS.out], h1.out, h3.out, h2.out⟩
        case measure => simp [intOf]; omega
      · have hkN : k = N := by omega
        subst hkN
        have hcond : decide ((k : Int) < 1 + qs.getD 0 0 % 8) = false := decide_eq_false (by have := HN.out; omega)
        obtain ⟨L, cL, rfl, _, _⟩ := own_form hown.out
        have HL := Lib.hid (show Ints wr L k ((eight qs).take k) from Rd.ofOwn hown.out)
        obtain ⟨bl, ol, rfl, _, hcl⟩ := HL.out.at_ (by omega)
        have l0 := hcl 0 (by omega)
        rw [Nat.add_zero] at l0
        have L01 := eight01 qs 0
        have e0 : ((eight qs).take k).getD 0 0 = (eight qs).getD 0 0 := by rw [List.getD_eq_getElem?_getD, List.getD_eq_getElem?_getD, List.getElem?_take, if_pos (by omega)]
        rw [e0] at l0
        have HE : Hid (elemsB p ((eight qs).take k) = true) := elemsB_mk HF.out fun a ha => by
          obtain ⟨j, hj, rfl⟩ := List.getElem_of_mem (List.mem_of_mem_take ha)
          have := eight01 qs j
          rw [getI _ j hj] at this
          omega
        have HXT := Lib.hid (xorTo_take p (eight qs) k k (Nat.le_refl _))
        have HY : Hid (xorF p ((eight qs).getD 0 0) 1 = 1 - (eight qs).getD 0 0) := by
          have h := xor01 p2 L01 (show 0 ≤ (1 : Int) ∧ (1 : Int) ≤ 1 by omega)
          unfold Hid xorF
          rw [Int.emod_eq_of_lt (by omega) (by omega)]; omega
        have HG := Lib.hid (gbT G.out hg2.out)
        clear e0 hcl hown hin hg2 hc x01
        generalize xorTo p (eight qs) k = x at *
        generalize (eight qs).getD 0 0 = l at *
        obtain ⟨L0, L1⟩ := L01
        have HEL := Lib.hid (elemB_mk HF.out L0 (show l < p by omega))
        have HE1 := Lib.hid (elemB_mk HF.out (show (0 : Int) ≤ 1 by omega) (show (1 : Int) < p by omega))
        generalize qs.getD 0 0 = y0 at *
        go_upto_region 12 with fail
        have kk : (0 : Int) < (k : Int) := by omega
        have kk2 : 0 < k := hN1
        refine region_grow [isV (.int .i64 p), isV (.slice (some ⟨bl, ol, none⟩) k cL), isV (.int .i64 x), isV (.int .i64 x), isV (.bool true), isV (.bool true), isV (.int .i64 p), isV (.slice (some ⟨bl, ol, none⟩) k cL), isV (.pointer (some ⟨bl, ol, none⟩)), isV (.int .i64 l), isV (.int .i64 (1 - l)), isV (.slice (some ⟨bl, ol, none⟩) k cL), isV (.pointer (some ⟨bl, ol, none⟩)), isV (.int .i64 l), isV (.int .i64 (1 - l)), isV (.bool true), isV (.bool true), isV (.bool true), isV (.int .i64 p), isNil, isV (.int .i64 0), isV (.bool true), isV (.bool true), isV (.bool true)] (by kernel_rfl) (by kernel_rfl) (by kernel_rfl) (by simp [stables, isV_st, isNil_st]) ?_ ?_
        · simp only [hops, and_true]
          refine ⟨?_, ?_, ?_, ?_, ?_, ?_, ?_, ?_, ?_, ?_, ?_, ?_, ?_, ?_, ?_, ?_, ?_, ?_, ?_, ?_, ?_, ?_, ?_, ?_⟩
          all_goals
            intro f w4 hG hd
            have HG4 := Lib.hid hG
            have m0 := gbk hG (kD l0)
            clear l0 hG
            simp [deps, tAt, isV, isNil] at hd
            first
              | (have h2 := Exists.choose_spec hd.2.1
                 generalize Exists.choose hd.2.1 = A' at h2
                 have h1 := hd.1
                 have h3 := hd.2.2
                 clear hd
                 simp [puts, dsts, Act.put, h1, h2, h3]
                 go_wp2_with (go_at_call 72; refine (implXorAll_yes p A' 0 0 [] _ (Ints.nil _ _) (by omega) (ints_nil_c (zs := []) HF.out)).mono ?_; rintro e w5 ⟨rfl, hw⟩)
                 exact ⟨_, rfl, hw, rfl⟩)
              | (first | simp [puts, dsts, Act.put, hd] | simp [puts, dsts, Act.put]
                 go_wp2_with (first | (go_at_call 72; refine (implXorAll_yes p _ _ _ ((eight qs).take k) _ ((show Ints wr.drew _ _ _ from HL.out).grow HG4.out) (by omega) HE.out).mono ?_; rw [HXT.out]; rintro e w5 ⟨rfl, hw⟩) | (go_at_call 62; refine (implXorField_yes p l 1 _ HEL.out HE1.out).mono ?_; rw [HY.out]; rintro e w5 ⟨rfl, hw⟩))
                 exact ⟨_, rfl, by first | with_reducible exact gbR _ _ | exact hw | exact gbA (gbR _ _) _, by first | (simp [tAt, isV, isNil]; done) | (simp [tAt, isV, isNil]; assumption)⟩)
        · intro f w4 hG hd
          have HG4 := Lib.hid hG
          clear hG l0
          simp [knows, tAt, isV, isNil] at hd
          simp only [puts, dsts, Act.put, hd, List.filterMap_cons, List.filterMap_nil, List.setIfInBounds_toArray, List.set_cons_zero, List.set_cons_succ]
          clear hd
          go_wp2_with fail
          go_ret
          exact ⟨rfl, gbT (gbD HG.out) HG4.out⟩
end Go.Proofs.Ytllokfcappfkiaa
