/-
  A drawn arithmetic circuit: it is well-formed; its inputs fit.
-/
import Derived.Test.YthaadgdeadbhkaaMgFnCosts18
import Derived.Test.YthaadgdeadbhkaaMgFnCosts13
namespace Go.Proofs.Ythaadgdeadbhkaa
open Go.RowKit
set_option linter.unusedVariables false
set_option linter.unusedSimpArgs false
theorem chgT3 (w : World) (g : Nat) (u0 u1 u2 : Value) : Chg (fun x => x = g) w (((w.setCell ⟨g, 0, none⟩ u0).setCell ⟨g, 1, none⟩ u1).setCell ⟨g, 2, none⟩ u2) := ((chgS _ g 0 u0).trans (chgS _ g 1 u1)).trans (chgS _ g 2 u2)
theorem fillT3 {w : World} {g : Nat} {T : TypeId} {a b c : Value} (h : Blk w g T #[a, b, c]) (u0 u1 u2 : Value) : Blk (((w.setCell ⟨g, 0, none⟩ u0).setCell ⟨g, 1, none⟩ u1).setCell ⟨g, 2, none⟩ u2) g T #[u0, u1, u2] := by
  simpa using ((h.set_ 0 u0).set_ 1 u1).set_ 2 u2
theorem nine_le : ∀ p ∈ nine, 2 ≤ p ∧ p ≤ 101 := by decide
def CaseI (lo g : Nat) (p : Int) (i : Nat) (w : World) : Prop := ∃ m : AM, m.p = p ∧ m.outs = [] ∧ m.st.length = i ∧ (∀ j, j < i → stepB p j (m.st.getD j (0, 0, 0)) = true) ∧ ASE lo g m w
theorem CaseI.push {lo g : Nat} {p : Int} {i : Nat} {w : World} {m : AM} {s : Stp} (h1 : m.p = p) (h2 : m.outs = []) (h3 : m.st.length = i) (h4 : ∀ j, j < i → stepB p j (m.st.getD j (0, 0, 0)) = true) (hs : stepB p i s = true) (h : ASE lo g { m with st := m.st ++ [s] } w) : CaseI lo g p (i + 1) w := by
  refine ⟨{ m with st := m.st ++ [s] }, h1, h2, by simp [h3], fun j hj => ?_, h⟩
  show stepB p j ((m.st ++ [s]).getD j (0, 0, 0)) = true
  rw [List.getD_eq_getElem?_getD]
  by_cases e : j < i
  · rw [List.getElem?_append_left (by omega), ← List.getD_eq_getElem?_getD]
    exact h4 j e
  · obtain rfl : j = i := by omega
    rw [List.getElem?_append_right (by omega)]
    simpa [h3] using hs
def CaseO (lo g : Nat) (p : Int) (n k : Nat) (w : World) : Prop := ∃ m : AM, m.p = p ∧ m.outs.length = k ∧ (∀ z ∈ m.outs, 0 ≤ z ∧ z < n) ∧ m.st.length = n ∧ (∀ j, j < n → stepB p j (m.st.getD j (0, 0, 0)) = true) ∧ ASE lo g m w
def CaseJ (w : World) (g : Nat) (A : Option Addr) (n c : Nat) (bs : List Int) (e : Ending) (w' : World) : Prop :=
  ∃ (V : Value) (m : AM) (F : List Nat), e = .returned V ∧ AOk m ∧ m.p ∈ nine ∧ (1 ≤ m.st.length ∧ m.st.length ≤ 14) ∧ m.outs.length ≤ 3 ∧ AggO w' (carith m) F V ∧ (∀ y ∈ F, w.heap.size ≤ y) ∧ Cur w' g A n c bs ∧ w.grownBy w' (some g)
set_option maxHeartbeats 4000000 in
set_option maxRecDepth 1000000 in
theorem l27Case_c (w : World) (g : Nat) (A : Option Addr) (n c : Nat) (bs : List Int) (hc : Cur w g A n c bs) :
    Calls Try.prog 107 #[.pointer (some ⟨g, 0, none⟩)] w (CaseJ w g A n c bs) := by
  have hgl := hc.lt
  have HLb : Hid (0 < n → ∀ a, A = some a → a.block < w.heap.size) := Lib.hid (fun hn a ha => by
    obtain ⟨b, o, rfl, hb, _⟩ := hc.bytes.2 hn
    injection ha with ha
    subst ha
    simp only
    omega)
  have HLo : Hid (0 < n → ∀ a, A = some a → a.block < w.heap.size + 1) := Lib.hid (fun hn a ha => by have := HLb.out hn a ha; omega)
  have HC := Lib.hid (hc.grow (gbA (gbR w none) (.cells #[.int .i64 0, .slice none 0 0, .slice none 0 0] 29)))
  have BR := Lib.hid (Blk.new w 29 #[.int .i64 0, .slice none 0 0, .slice none 0 0])
  have G0 := Lib.hid (gbW (r := some g) (gbA (gbR w none) (.cells #[.int .i64 0, .slice none 0 0, .slice none 0 0] 29)))
  clear hc
  go_enter Try.func107, Try.ntmps107
  go_wp2_with fail
  refine (l03Prime_c _ g A n c bs HC.out).mono ?_
  rintro e w1 ⟨p, rfl, hp, c1, g1⟩
  have HP := Lib.hid hp
  have hpr := nine_le p hp
  have HFL := Lib.hid (nine_field p hp)
  have B1 := Lib.hid (BR.out.grown g1 (by simp; omega))
  have G1 := Lib.hid (gbT G0.out g1)
  have S1 := g1.size
  simp at S1
  have C1 := Lib.hid (c1.grow (gbA (gbR w1 none) (.cells #[.int .i64 p, .slice none 0 0, .slice none 0 0] 29)))
  clear c1 g1 hp
  go_wp2_with fail
  obtain ⟨g3, hg3⟩ : ∃ x, w1.heap.size = x := ⟨_, rfl⟩
  have L3 : w.heap.size + 1 ≤ g3 := by omega
  obtain ⟨w2, hw2⟩ : ∃ x : World, w1.alloc (.cells #[.int .i64 p, .slice none 0 0, .slice none 0 0] 29) = x := ⟨_, rfl⟩
  have C2 : Hid (Cur w2 g A n c bs) := by rw [← hw2]; exact Lib.hid (C1.out)
  have B2 : Hid (Blk w2 w.heap.size 29 #[.int .i64 0, .slice none 0 0, .slice none 0 0]) := by rw [← hw2]; exact Lib.hid (B1.out.grow (gbA (gbR _ _) _))
  have G2 : Hid (w.grownBy w2 (some g)) := by rw [← hw2]; exact Lib.hid (gbT G1.out (gbW (gbA (gbR _ none) _)))
  have BK : Hid (Blk w2 g3 29 #[.int .i64 p, .slice none 0 0, .slice none 0 0]) := by rw [← hw2, ← hg3]; exact Lib.hid (Blk.new _ _ _)
  rw [hw2, hg3]
  clear hw2 hg3 C1 B1 G1 HC BR G0
  refine (l01Below_c _ 14 (by omega) g A n c bs C2.out).mono ?_
  rintro e w3 ⟨x, rfl, hx0, hx1, c3, g3'⟩
  obtain ⟨xn, rfl⟩ := Int.eq_ofNat_of_zero_le hx0
  have hx2 := hx1 (by omega)
  have C3 := Lib.hid c3
  have B3 := Lib.hid (B2.out.grown g3' (by simp; omega))
  have BK3 := BK.out.grown g3' (by simp; omega)
  have G3 := Lib.hid (gbT G2.out g3')
  have I3 : Hid (CaseI (w.heap.size + 1) g3 p 0 w3) := Lib.hid ⟨⟨p, [], []⟩, rfl, rfl, rfl, by simp, .slice none 0 0, .slice none 0 0, [], [], BK3, plst_own (s := 3) (n := 0) (base := 0) (fun _ => rfl) (by omega) c3_one (World.ownsRow_nil _ _ _ _), cints_own (World.ownsRow_nil _ 0 _ _), by simp, by simp, L3⟩
  clear c3 g3' BK3 C2 B2 G2 BK hx1
  obtain ⟨nn, hnn⟩ : ∃ nn : Nat, nn = xn + 1 := ⟨_, rfl⟩
  have hnb : 1 ≤ nn ∧ nn ≤ 14 := by omega
  go_wp2_with fail
  rw [show ((1 : Int) + (xn : Int)) = (nn : Int) by omega]
  clear hnn hx2 hx0
  go_loopw [5] (fun q wr => ∃ i : Nat, i ≤ nn ∧ q = .int .i64 i ∧ Hid (CaseI (w.heap.size + 1) g3 p i wr) ∧ Hid (Cur wr g A n c bs) ∧ Hid (Blk wr w.heap.size 29 #[.int .i64 0, .slice none 0 0, .slice none 0 0]) ∧ Hid (w.grownBy wr (some g))) (fun q _ => nn - (intOf q).toNat)
  case atStart => exact ⟨0, by omega, rfl, I3, C3, B3, G3⟩
  case round =>
    clear I3 C3 B3 G3
    obtain ⟨i, hi, rfl, hI, hCu, hB, hG⟩ := hrel
    by_cases hlt : i < nn
    · have i1 : (i : Int) < (nn : Int) := by omega
      go_wp2_with fail
      refine (l01Below_c _ 5 (by omega) g A n c bs hCu.out).mono ?_
      rintro e w4 ⟨y, rfl, hy0, hy1, c4, g4⟩
      obtain ⟨yn, rfl⟩ := Int.eq_ofNat_of_zero_le hy0
      have hy2 := hy1 (by omega)
      have hCu4 := Lib.hid c4
      have hB4 := Lib.hid (hB.out.grown g4 (by simp; omega))
      have hG4 := Lib.hid (gbT hG.out g4)
      obtain ⟨m, hmp, hmo, hmi, hms, hAS⟩ := hI.out
      have hAS := Lib.hid (hAS.chg (Chg.of (S := fun y => y = g) g4 (fun y h => by injection h with h; exact h.symm)) (fun y hy => by omega))
      have hgl' : g < w.heap.size + 1 := by omega
      obtain ⟨lo, hlo⟩ : ∃ lo, w.heap.size + 1 = lo := ⟨_, rfl⟩
      rw [hlo] at hAS hgl' HLo
      clear c4 g4 hy1 hI hCu hB hG
      have hCu := hCu4
      have hB := hB4
      have hG := hG4
      clear hCu4 hB4 hG4
      have hyc : yn = 0 ∨ yn = 1 ∨ yn = 2 ∨ yn = 3 ∨ yn = 4 := by omega
      rcases hyc with rfl | rfl | rfl | rfl | rfl
      · rcases Nat.eq_zero_or_pos i with hi0 | hip
        · have d0 : ((i : Int) == 0) = true := by simp; omega
          go_wp2_with fail
          refine l27R14 lo g3 g m 1 A n c bs _ hAS.out hCu.out hgl' HLo.out (by omega) _ _ _ _ _ _ _ _ _ _ _ _ _ _ _ _ _ _ _ _ _ _ _ _ _ _ _ _ _ _ _ _ _ _ _ _ _ _ _ _ _ _ _ _ _ _ _ _ _ _ _ _ _ _ _ _ _ _ _ _ _ _ _ _ _ _ _ _ _ _ _ _ _ _ _ _ _ _ _ _ _ _ ?_
          intro y v46 v47 v48 v49 v50 v51 v52 v53 v54 w7 hy0 hy1 hS hC hch
          have HY : stepB p i (1, y, 0) = true := by simp [stepB, inB]; omega
          have S7 := Lib.hid hS
          have C7 := Lib.hid hC
          have B7 := Lib.hid (hB.out.chg hch (fun e => by rcases e with e | e <;> omega))
          have G7 := Lib.hid (gbC hG.out hch (fun y hy => hy.elim (fun e => .inl (by rw [e])) (fun e => .inr (by omega))))
          clear hS hC hch hB hG
          go_wp2_with fail
          go_roundw
          case rel => exact ⟨i + 1, by omega, by go_num, (by rw [hlo]; exact Lib.hid (CaseI.push hmp hmo hmi hms HY S7.out)), C7, B7, G7⟩
          case measure => simp [intOf]; omega
        · have d0 : ((i : Int) == 0) = false := by simp; omega
          go_wp2_with fail
          refine l27R14 lo g3 g m 1 A n c bs _ hAS.out hCu.out hgl' HLo.out (by omega) _ _ _ _ _ _ _ _ _ _ _ _ _ _ _ _ _ _ _ _ _ _ _ _ _ _ _ _ _ _ _ _ _ _ _ _ _ _ _ _ _ _ _ _ _ _ _ _ _ _ _ _ _ _ _ _ _ _ _ _ _ _ _ _ _ _ _ _ _ _ _ _ _ _ _ _ _ _ _ _ _ _ ?_
          intro y v46 v47 v48 v49 v50 v51 v52 v53 v54 w7 hy0 hy1 hS hC hch
          have HY : stepB p i (1, y, 0) = true := by simp [stepB, inB]; omega
          have S7 := Lib.hid hS
          have C7 := Lib.hid hC
          have B7 := Lib.hid (hB.out.chg hch (fun e => by rcases e with e | e <;> omega))
          have G7 := Lib.hid (gbC hG.out hch (fun y hy => hy.elim (fun e => .inl (by rw [e])) (fun e => .inr (by omega))))
          clear hS hC hch hB hG
          go_wp2_with fail
          go_roundw
          case rel => exact ⟨i + 1, by omega, by go_num, (by rw [hlo]; exact Lib.hid (CaseI.push hmp hmo hmi hms HY S7.out)), C7, B7, G7⟩
          case measure => simp [intOf]; omega
      · rcases Nat.eq_zero_or_pos i with hi0 | hip
        · have d0 : ((i : Int) == 0) = true := by simp; omega
          go_wp2_with fail
          refine l27R16 lo g3 g m 2 A n c bs _ hAS.out hCu.out hgl' HLo.out (by omega) (by rw [hmp]; omega) (by rw [hmp]; omega) _ _ _ _ _ _ _ _ _ _ _ _ _ _ _ _ _ _ _ _ _ _ _ _ _ _ _ _ _ _ _ _ _ _ _ _ _ _ _ _ _ _ _ _ _ _ _ _ _ _ _ _ _ _ _ _ _ _ _ _ _ _ _ _ _ _ _ _ _ _ _ _ _ _ _ _ _ _ _ _ _ _ ?_
          intro y v57 v58 v59 v60 v61 v62 v63 v64 v65 v66 v67 w7 hy0 hy1 hS hC hch
          rw [hmp] at hy1
          have HY : stepB p i (2, y, 0) = true := by simp [stepB, elemB, HFL.out]; omega
          have S7 := Lib.hid hS
          have C7 := Lib.hid hC
          have B7 := Lib.hid (hB.out.chg hch (fun e => by rcases e with e | e <;> omega))
          have G7 := Lib.hid (gbC hG.out hch (fun y hy => hy.elim (fun e => .inl (by rw [e])) (fun e => .inr (by omega))))
          clear hS hC hch hB hG
          go_wp2_with fail
          go_roundw
          case rel => exact ⟨i + 1, by omega, by go_num, (by rw [hlo]; exact Lib.hid (CaseI.push hmp hmo hmi hms HY S7.out)), C7, B7, G7⟩
          case measure => simp [intOf]; omega
        · have d0 : ((i : Int) == 0) = false := by simp; omega
          go_wp2_with fail
          refine l27R16 lo g3 g m 2 A n c bs _ hAS.out hCu.out hgl' HLo.out (by omega) (by rw [hmp]; omega) (by rw [hmp]; omega) _ _ _ _ _ _ _ _ _ _ _ _ _ _ _ _ _ _ _ _ _ _ _ _ _ _ _ _ _ _ _ _ _ _ _ _ _ _ _ _ _ _ _ _ _ _ _ _ _ _ _ _ _ _ _ _ _ _ _ _ _ _ _ _ _ _ _ _ _ _ _ _ _ _ _ _ _ _ _ _ _ _ ?_
          intro y v57 v58 v59 v60 v61 v62 v63 v64 v65 v66 v67 w7 hy0 hy1 hS hC hch
          rw [hmp] at hy1
          have HY : stepB p i (2, y, 0) = true := by simp [stepB, elemB, HFL.out]; omega
          have S7 := Lib.hid hS
          have C7 := Lib.hid hC
          have B7 := Lib.hid (hB.out.chg hch (fun e => by rcases e with e | e <;> omega))
          have G7 := Lib.hid (gbC hG.out hch (fun y hy => hy.elim (fun e => .inl (by rw [e])) (fun e => .inr (by omega))))
          clear hS hC hch hB hG
          go_wp2_with fail
          go_roundw
          case rel => exact ⟨i + 1, by omega, by go_num, (by rw [hlo]; exact Lib.hid (CaseI.push hmp hmo hmi hms HY S7.out)), C7, B7, G7⟩
          case measure => simp [intOf]; omega
      · rcases Nat.eq_zero_or_pos i with hi0 | hip
        · have d0 : ((i : Int) == 0) = true := by simp; omega
          go_wp2_with fail
          refine l27R14 lo g3 g m 1 A n c bs _ hAS.out hCu.out hgl' HLo.out (by omega) _ _ _ _ _ _ _ _ _ _ _ _ _ _ _ _ _ _ _ _ _ _ _ _ _ _ _ _ _ _ _ _ _ _ _ _ _ _ _ _ _ _ _ _ _ _ _ _ _ _ _ _ _ _ _ _ _ _ _ _ _ _ _ _ _ _ _ _ _ _ _ _ _ _ _ _ _ _ _ _ _ _ ?_
          intro y v46 v47 v48 v49 v50 v51 v52 v53 v54 w7 hy0 hy1 hS hC hch
          have HY : stepB p i (1, y, 0) = true := by simp [stepB, inB]; omega
          have S7 := Lib.hid hS
          have C7 := Lib.hid hC
          have B7 := Lib.hid (hB.out.chg hch (fun e => by rcases e with e | e <;> omega))
          have G7 := Lib.hid (gbC hG.out hch (fun y hy => hy.elim (fun e => .inl (by rw [e])) (fun e => .inr (by omega))))
          clear hS hC hch hB hG
          go_wp2_with fail
          go_roundw
          case rel => exact ⟨i + 1, by omega, by go_num, (by rw [hlo]; exact Lib.hid (CaseI.push hmp hmo hmi hms HY S7.out)), C7, B7, G7⟩
          case measure => simp [intOf]; omega
        · have d0 : ((i : Int) == 0) = false := by simp; omega
          go_wp2_with fail
          refine l27R12 lo g3 g m 3 i A n c bs _ hAS.out hCu.out hgl' HLo.out (by omega) (by omega) (by omega) _ _ _ _ _ _ _ _ _ _ _ _ _ _ _ _ _ _ _ _ _ _ _ _ _ _ _ _ _ _ _ _ _ _ _ _ _ _ _ _ _ _ _ _ _ _ _ _ _ _ _ _ _ _ _ _ _ _ _ _ _ _ _ _ _ _ _ _ _ _ _ _ _ _ _ _ _ _ _ _ _ ?_
          intro y z v31 v32 v33 v34 v35 v36 v37 v38 v39 v40 v41 v42 v43 w7 hy0 hy1 hz0 hz1 hS hC hch
          have HY : stepB p i (3, y, z) = true := by simp [stepB, inB]; omega
          have S7 := Lib.hid hS
          have C7 := Lib.hid hC
          have B7 := Lib.hid (hB.out.chg hch (fun e => by rcases e with e | e <;> omega))
          have G7 := Lib.hid (gbC hG.out hch (fun y hy => hy.elim (fun e => .inl (by rw [e])) (fun e => .inr (by omega))))
          clear hS hC hch hB hG
          go_wp2_with fail
          go_roundw
          case rel => exact ⟨i + 1, by omega, by go_num, (by rw [hlo]; exact Lib.hid (CaseI.push hmp hmo hmi hms HY S7.out)), C7, B7, G7⟩
          case measure => simp [intOf]; omega
      · rcases Nat.eq_zero_or_pos i with hi0 | hip
        · have d0 : ((i : Int) == 0) = true := by simp; omega
          go_wp2_with fail
          refine l27R14 lo g3 g m 1 A n c bs _ hAS.out hCu.out hgl' HLo.out (by omega) _ _ _ _ _ _ _ _ _ _ _ _ _ _ _ _ _ _ _ _ _ _ _ _ _ _ _ _ _ _ _ _ _ _ _ _ _ _ _ _ _ _ _ _ _ _ _ _ _ _ _ _ _ _ _ _ _ _ _ _ _ _ _ _ _ _ _ _ _ _ _ _ _ _ _ _ _ _ _ _ _ _ ?_
          intro y v46 v47 v48 v49 v50 v51 v52 v53 v54 w7 hy0 hy1 hS hC hch
          have HY : stepB p i (1, y, 0) = true := by simp [stepB, inB]; omega
          have S7 := Lib.hid hS
          have C7 := Lib.hid hC
          have B7 := Lib.hid (hB.out.chg hch (fun e => by rcases e with e | e <;> omega))
          have G7 := Lib.hid (gbC hG.out hch (fun y hy => hy.elim (fun e => .inl (by rw [e])) (fun e => .inr (by omega))))
          clear hS hC hch hB hG
          go_wp2_with fail
          go_roundw
          case rel => exact ⟨i + 1, by omega, by go_num, (by rw [hlo]; exact Lib.hid (CaseI.push hmp hmo hmi hms HY S7.out)), C7, B7, G7⟩
          case measure => simp [intOf]; omega
        · have d0 : ((i : Int) == 0) = false := by simp; omega
          go_wp2_with fail
          refine l27R12 lo g3 g m 4 i A n c bs _ hAS.out hCu.out hgl' HLo.out (by omega) (by omega) (by omega) _ _ _ _ _ _ _ _ _ _ _ _ _ _ _ _ _ _ _ _ _ _ _ _ _ _ _ _ _ _ _ _ _ _ _ _ _ _ _ _ _ _ _ _ _ _ _ _ _ _ _ _ _ _ _ _ _ _ _ _ _ _ _ _ _ _ _ _ _ _ _ _ _ _ _ _ _ _ _ _ _ ?_
          intro y z v31 v32 v33 v34 v35 v36 v37 v38 v39 v40 v41 v42 v43 w7 hy0 hy1 hz0 hz1 hS hC hch
          have HY : stepB p i (4, y, z) = true := by simp [stepB, inB]; omega
          have S7 := Lib.hid hS
          have C7 := Lib.hid hC
          have B7 := Lib.hid (hB.out.chg hch (fun e => by rcases e with e | e <;> omega))
          have G7 := Lib.hid (gbC hG.out hch (fun y hy => hy.elim (fun e => .inl (by rw [e])) (fun e => .inr (by omega))))
          clear hS hC hch hB hG
          go_wp2_with fail
          go_roundw
          case rel => exact ⟨i + 1, by omega, by go_num, (by rw [hlo]; exact Lib.hid (CaseI.push hmp hmo hmi hms HY S7.out)), C7, B7, G7⟩
          case measure => simp [intOf]; omega
      · rcases Nat.eq_zero_or_pos i with hi0 | hip
        · have d0 : ((i : Int) == 0) = true := by simp; omega
          go_wp2_with fail
          refine l27R14 lo g3 g m 1 A n c bs _ hAS.out hCu.out hgl' HLo.out (by omega) _ _ _ _ _ _ _ _ _ _ _ _ _ _ _ _ _ _ _ _ _ _ _ _ _ _ _ _ _ _ _ _ _ _ _ _ _ _ _ _ _ _ _ _ _ _ _ _ _ _ _ _ _ _ _ _ _ _ _ _ _ _ _ _ _ _ _ _ _ _ _ _ _ _ _ _ _ _ _ _ _ _ ?_
          intro y v46 v47 v48 v49 v50 v51 v52 v53 v54 w7 hy0 hy1 hS hC hch
          have HY : stepB p i (1, y, 0) = true := by simp [stepB, inB]; omega
          have S7 := Lib.hid hS
          have C7 := Lib.hid hC
          have B7 := Lib.hid (hB.out.chg hch (fun e => by rcases e with e | e <;> omega))
          have G7 := Lib.hid (gbC hG.out hch (fun y hy => hy.elim (fun e => .inl (by rw [e])) (fun e => .inr (by omega))))
          clear hS hC hch hB hG
          go_wp2_with fail
          go_roundw
          case rel => exact ⟨i + 1, by omega, by go_num, (by rw [hlo]; exact Lib.hid (CaseI.push hmp hmo hmi hms HY S7.out)), C7, B7, G7⟩
          case measure => simp [intOf]; omega
        · have d0 : ((i : Int) == 0) = false := by simp; omega
          go_wp2_with fail
          refine l27R12 lo g3 g m 4 i A n c bs _ hAS.out hCu.out hgl' HLo.out (by omega) (by omega) (by omega) _ _ _ _ _ _ _ _ _ _ _ _ _ _ _ _ _ _ _ _ _ _ _ _ _ _ _ _ _ _ _ _ _ _ _ _ _ _ _ _ _ _ _ _ _ _ _ _ _ _ _ _ _ _ _ _ _ _ _ _ _ _ _ _ _ _ _ _ _ _ _ _ _ _ _ _ _ _ _ _ _ ?_
          intro y z v31 v32 v33 v34 v35 v36 v37 v38 v39 v40 v41 v42 v43 w7 hy0 hy1 hz0 hz1 hS hC hch
          have HY : stepB p i (4, y, z) = true := by simp [stepB, inB]; omega
          have S7 := Lib.hid hS
          have C7 := Lib.hid hC
          have B7 := Lib.hid (hB.out.chg hch (fun e => by rcases e with e | e <;> omega))
          have G7 := Lib.hid (gbC hG.out hch (fun y hy => hy.elim (fun e => .inl (by rw [e])) (fun e => .inr (by omega))))
          clear hS hC hch hB hG
          go_wp2_with fail
          go_roundw
          case rel => exact ⟨i + 1, by omega, by go_num, (by rw [hlo]; exact Lib.hid (CaseI.push hmp hmo hmi hms HY S7.out)), C7, B7, G7⟩
          case measure => simp [intOf]; omega
    · have hin : i = nn := by omega
      subst hin
      obtain ⟨m0, hmp, hmo, hmi, hms, hAS⟩ := hI.out
      have O0 : Hid (CaseO (w.heap.size + 1) g3 p i 0 wr) := Lib.hid ⟨m0, hmp, by rw [hmo]; rfl, by rw [hmo]; simp, hmi, hms, hAS⟩
      clear hI hmp hmo hmi hms hAS
      go_wp2_with fail
      obtain ⟨wo, hwo⟩ : ∃ wo : World, wr = wo := ⟨_, rfl⟩
      rw [hwo] at hCu hB hG O0 ⊢
      clear hwo
      go_loopw [7] (fun q wr => ∃ k : Nat, k ≤ 3 ∧ q = .int .i64 k ∧ Hid (CaseO (w.heap.size + 1) g3 p i k wr) ∧ Hid (Cur wr g A n c bs) ∧ Hid (Blk wr w.heap.size 29 #[.int .i64 0, .slice none 0 0, .slice none 0 0]) ∧ Hid (w.grownBy wr (some g))) (fun q _ => 3 - (intOf q).toNat)
      case atStart => exact ⟨0, by omega, rfl, O0, hCu, hB, hG⟩
      case round =>
        clear O0 hCu hB hG
        obtain ⟨k, hk, rfl, hI, hCu, hB, hG⟩ := hrel
        go_wp2_with fail
        refine (l01Below_c _ 3 (by omega) g A n c bs hCu.out).mono ?_
        rintro e w4 ⟨y, rfl, hy0, hy1, c4, g4⟩
        obtain ⟨yn, rfl⟩ := Int.eq_ofNat_of_zero_le hy0
        have hy2 := hy1 (by omega)
        have hCu4 := Lib.hid c4
        have hB4 := Lib.hid (hB.out.grown g4 (by simp; omega))
        have hG4 := Lib.hid (gbT hG.out g4)
        obtain ⟨m, hmp, hmk, hmo, hmi, hms, hAS⟩ := hI.out
        have hAS := Lib.hid (hAS.chg (Chg.of (S := fun y => y = g) g4 (fun y h => by injection h with h; exact h.symm)) (fun y hy => by omega))
        have hgl' : g < w.heap.size + 1 := by omega
        clear c4 g4 hy1 hI hCu hB hG
        have hCu := hCu4
        have hB := hB4
        have hG := hG4
        clear hCu4 hB4 hG4
        by_cases hkt : (k : Int) < 1 + (yn : Int)
        · go_wp2_with fail
          refine l27R20 (w.heap.size + 1) g3 g m i A n c bs _ hAS.out hCu.out hgl' HLo.out (by omega) (by omega) (by omega) _ _ _ _ _ _ _ _ _ _ _ _ _ _ _ _ _ _ _ _ _ _ _ _ _ _ _ _ _ _ _ _ _ _ _ _ _ _ _ _ _ _ _ _ _ _ _ _ _ _ _ _ _ _ _ _ _ _ _ _ _ _ _ _ _ _ _ _ _ _ _ _ _ _ _ _ _ _ _ _ _ _ ?_
          intro z v75 v76 v77 v78 v79 v80 v81 v82 w7 hz0 hz1 hS hC hch
          have S7 : Hid (CaseO (w.heap.size + 1) g3 p i (k + 1) w7) := Lib.hid ⟨{ m with outs := m.outs ++ [z] }, hmp, by simp [hmk], fun u hu => by
            rcases List.mem_append.1 hu with hu | hu
            · exact hmo u hu
            · simp at hu; subst hu; exact ⟨hz0, hz1⟩, hmi, hms, hS⟩
          have C7 := Lib.hid hC
          have B7 := Lib.hid (hB.out.chg hch (fun e => by rcases e with e | e <;> omega))
          have G7 := Lib.hid (gbC hG.out hch (fun y hy => hy.elim (fun e => .inl (by rw [e])) (fun e => .inr (by omega))))
          clear hS hC hch hB hG
          go_wp2_with fail
          go_roundw
          case rel => exact ⟨k + 1, by omega, by go_num, S7, C7, B7, G7⟩
          case measure => simp [intOf]; omega
        · obtain ⟨u1, u2, F1, F2, hS⟩ := hAS.out
          obtain ⟨A1, c1, rfl, _, _⟩ := csteps_form hS.s
          obtain ⟨A2, c2, rfl, _, _⟩ := cints_row hS.o
          rw [hmi, hmk] at hS
          have hagg := carith_omk hS.s hS.o (fun y hy => (hS.l1 y hy).2.2)
          rw [hmp] at hagg
          have HAG := Lib.hid hagg
          have HS := Lib.hid hS
          have v0 := hS.blk.cell 0
          have v1 := hS.blk.cell 1
          have v2 := hS.blk.cell 2
          have b0 := hB.out.cell 0
          have b1 := hB.out.cell 1
          have b2 := hB.out.cell 2
          have f0 := hB.out.frozen 0
          have f1 := hB.out.frozen 1
          have f2 := hB.out.frozen 2
          simp at v0 v1 v2 b0 b1 b2
          rw [hmp] at v0
          have HMP := Lib.hid hmp
          have HMK := Lib.hid hmk
          have HMI := Lib.hid hmi
          clear hS hagg hmp hmk hmi
          go_wp2_with fail
          have hmp := HMP.out
          have hmk := HMK.out
          have hmi := HMI.out
          refine ret_c Try.results107 (by rfl) stArith (cs := #[.int .i64 p, .slice A1 i c1, .slice A2 k c2]) ?B (by rfl) (by rfl) ?_
          case B => exact fillT3 hB.out _ _ _
          have hch := chgT3 w4 w.heap.size (.int .i64 p) (.slice A1 i c1) (.slice A2 k c2)
          refine ⟨_, m, _, rfl, ⟨by rw [hmp]; exact HFL.out, by omega, fun j hj => by rw [hmp]; exact hms j (by omega), fun u hu => by have := hmo u hu; simp [inB]; omega⟩, by rw [hmp]; exact HP.out, by omega, by omega, HAG.out.chg hch (fun y hy e => ?_), fun y hy => ?_, ?_, ?_⟩
          · simp at hy
            rcases hy with hy | hy
            · have := (HS.out.l1 y hy).1; omega
            · have := (HS.out.l2 y hy).1; omega
          · simp at hy
            rcases hy with hy | hy
            · have := (HS.out.l1 y hy).1; omega
            · have := (HS.out.l2 y hy).1; omega
          · exact hCu.out.kept hch (hch.block g hCu.out.lt (by omega)) (fun hn a ha e => by have := HLb.out hn a ha; omega)
          · exact gbC hG.out hch (fun y hy => .inr (by omega))
end Go.Proofs.Ythaadgdeadbhkaa
