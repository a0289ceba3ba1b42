/-
  The reference's builders: products.
-/
import Derived.Test.YthdfkiaoahpjpaaMgFnConstantCircuits36
import Derived.Test.YthdfkiaoahpjpaaMgFnConstantCircuits37
namespace Go.Proofs.Ythdfkiaoahpjpaa
open Go.RowKit
set_option linter.unusedVariables false
set_option linter.unusedSimpArgs false
def prodS (m : CM) (x y : List Int) (i : Nat) : Nat → List Int × CM
  | 0 => ([], m)
  | k + 1 => ((prodS m x y i k).1 ++ [((prodS m x y i k).2.gt.length : Int)], (prodS m x y i k).2.put 4 (y.getD i 0) (x.getD k 0))
theorem prodS_len (m : CM) (x y : List Int) (i : Nat) : ∀ k, (prodS m x y i k).1.length = k ∧ (prodS m x y i k).2.gt.length = m.gt.length + k
  | 0 => ⟨rfl, rfl⟩
  | k + 1 => by
    obtain ⟨h1, h2⟩ := prodS_len m x y i k
    exact ⟨by simp [prodS, h1], by simp only [prodS, put_len, h2]; omega⟩
def mulS (m : CM) (x y : List Int) : Nat → List Int × CM
  | 0 => mulA m x y 4
  | k + 1 => ((mulS m x y k).1.take (k + 1) ++ (sumS (prodS (mulS m x y k).2 x y (k + 1) (3 - k)).2 ((mulS m x y k).1.drop (k + 1)) (prodS (mulS m x y k).2 x y (k + 1) (3 - k)).1 0 (2 - k)).1, (sumS (prodS (mulS m x y k).2 x y (k + 1) (3 - k)).2 ((mulS m x y k).1.drop (k + 1)) (prodS (mulS m x y k).2 x y (k + 1) (3 - k)).1 0 (2 - k)).2)
theorem mulS_len (m : CM) (x y : List Int) : ∀ k, k ≤ 3 → (mulS m x y k).1.length = 4 ∧ (mulS m x y k).2.gt.length ≤ m.gt.length + 4 + 25 * k
  | 0, _ => by
    obtain ⟨h1, h2⟩ := mulA_len m x y 4
    exact ⟨h1, by simp only [mulS, h2]; omega⟩
  | k + 1, hk => by
    obtain ⟨h1, h2⟩ := mulS_len m x y k (by omega)
    obtain ⟨h3, h4⟩ := prodS_len (mulS m x y k).2 x y (k + 1) (3 - k)
    obtain ⟨h5, h6⟩ := sumS_len (prodS (mulS m x y k).2 x y (k + 1) (3 - k)).2 ((mulS m x y k).1.drop (k + 1)) (prodS (mulS m x y k).2 x y (k + 1) (3 - k)).1 0 (2 - k)
    exact ⟨by simp only [mulS, List.length_append, List.length_take, h5, h1]; omega, by simp only [mulS, h6, h4]; omega⟩
theorem Ints.drop' {w : World} {b o n : Nat} {zs : List Int} (h : Ints w (some ⟨b, o, none⟩) n zs) {k : Nat} (hk : k ≤ n) : Ints w (some ⟨b, o + k, none⟩) (n - k) (zs.drop k) := by
  have hl := h.len
  refine ⟨by simp; omega, fun hp => ?_⟩
  obtain ⟨b', o', e, hb, hc⟩ := h.at_ (by omega)
  injection e with e
  injection e with e1 e2 _
  subst e1; subst e2
  refine ⟨b, o + k, rfl, hb, fun j hj => ?_⟩
  have hj' : k + j < n := by simp at hj; omega
  have := hc (k + j) hj'
  rw [Nat.add_assoc, this]
  simp [List.getElem?_drop, List.getD_eq_getElem?_getD, List.getElem?_eq_getElem (show k + j < zs.length by omega)]
theorem SRV.drop {T : TypeId} {lo b o n k : Nat} {w : World} {xs : List Int} (h : SRV T lo w (some ⟨b, o, none⟩) n xs) (hk : k ≤ n) : SRV T lo w (some ⟨b, o + k, none⟩) (n - k) (xs.drop k) := fun w' hw => (h w' hw).drop' hk
theorem own_lo {w : World} {e : TypeId} {s n lo : Nat} {v : Value} {xs : List Value} (h : w.ownsRow 0 e s v n xs) (hl : ∀ g, v.ownBlock = some g → lo ≤ g) : w.ownsRow lo e s v n xs := by
  refine ⟨h.1, ?_⟩
  rcases h.2 with h1 | ⟨g1, cap, cur, hv, hb, rest⟩
  · exact .inl h1
  · exact .inr ⟨g1, cap, cur, hv, hl g1 (by rw [hv]; rfl), rest⟩
set_option maxHeartbeats 2000000 in
set_option maxRecDepth 100000 in
theorem specl14Mul_c (m : CM) (g lo hi : Nat) (A B : Option Addr) (c d : Nat) (x y : List Int) (w : World) (h : BS 28 lo hi m g w) (hx : SRV 28 lo w A 4 x) (hy : SRV 28 lo w B 4 y) (few : m.gt.length ≤ 40000) (hlo : lo ≤ w.heap.size) (hhi : hi ≤ w.heap.size) :
    Calls Try.prog 65 #[.pointer (some ⟨g, 0, none⟩), .slice A 4 c, .slice B 4 d] w fun e w' => ∃ v, e = .returned v ∧ ownF w.heap.size (cints (mulS m x y 3).1) v w' ∧ Bld 28 lo hi (mulS m x y 3).2 g w w' := by
  obtain ⟨bx, ox, rfl, _, _⟩ := hx.now.at_ (by omega)
  obtain ⟨bz, oz, rfl, _, _⟩ := hy.now.at_ (by omega)
  have HX6 := Lib.hid hx
  have HY6 := Lib.hid hy
  obtain ⟨w6, hw6⟩ : ∃ q : World, w.alloc (.cells #[] 3) = q := ⟨_, rfl⟩
  have G6 : Hid (w.grownBy w6 none) := by rw [← hw6]; exact Lib.hid (gbA (gbR _ _) _)
  have R1 : Hid (ownF w.heap.size (cints (mulA m x y 0).1) (.slice (some ⟨w.heap.size, 0, none⟩) 0 0) w6) := by
    rw [← hw6]
    exact Lib.hid (ownF.ints (World.ownsRow_made w #[] 0 (Nat.le_refl _) (by simp) rfl))
  have BL : Hid (Bld 28 lo hi (mulA m x y 0).2 g w w6) := Lib.hid ⟨h.grow G6.out, GBT.grow G6.out⟩
  clear G6 h hx hy
  go_enter Try.func65, Try.ntmps65
  go_wp2_with fail
  try rw [hw6]
  clear hw6
  go_loopw [7, 8] (fun t i wr => ∃ k c1 : Nat, ∃ A1 : Option Addr, k ≤ 4 ∧ i = .int .i64 k ∧ t = .slice A1 k c1 ∧ Hid (ownF w.heap.size (cints (mulA m x y k).1) (.slice A1 k c1) wr) ∧ Hid (Bld 28 lo hi (mulA m x y k).2 g w wr)) (fun _ i _ => 4 - (intOf i).toNat)
  case atStart => exact ⟨0, 0, _, Nat.zero_le _, rfl, rfl, R1, BL⟩
  case round =>
    clear R1 BL
    obtain ⟨k, c1, A1, hk, rfl, rfl, RO, BL⟩ := hrel
    obtain ⟨l1, l2⟩ := mulA_len m x y k
    have hst : mulA m x y (k + 1) = ((mulA m x y k).1 ++ [((mulA m x y k).2.gt.length : Int)], (mulA m x y k).2.put 4 (y.getD 0 0) (x.getD k 0)) := rfl
    obtain ⟨s, hs⟩ : ∃ s, mulA m x y k = s := ⟨_, rfl⟩
    rw [hs] at l1 l2 RO BL hst
    have HS := Lib.hid hs
    have L1 := Lib.hid l1
    have hsz := BL.out.2.size
    obtain ⟨N, hN⟩ : ∃ N, s.2.gt.length = N := ⟨_, rfl⟩
    rw [hN] at l2 hst
    have LN := Lib.hid hN
    have lN : N ≤ 60000 := by omega
    clear hN l2 hs l1
    by_cases hlt : k < 4
    · have i1 : (k : Int) < 4 := by omega
      obtain ⟨xk, hxk⟩ : ∃ q, x.getD k 0 = q := ⟨_, rfl⟩
      obtain ⟨y0, hy0⟩ : ∃ q, y.getD 0 0 = q := ⟨_, rfl⟩
      rw [hxk, hy0] at hst
      have HST := Lib.hid hst
      have HXK := Lib.hid hxk
      have HYK := Lib.hid hy0
      clear hst hxk hy0
      have FX : Hid (∀ wx, Chg (GBT 28 lo w) w wx → wx.cell? ⟨bx, ox + k, none⟩ = some (.int .i64 xk)) := Lib.hid (fun wx hh => by rw [← HXK.out]; exact (HX6.out wx hh).val (by omega))
      have FY : Hid (∀ wx, Chg (GBT 28 lo w) w wx → wx.cell? ⟨bz, oz, none⟩ = some (.int .i64 y0)) := Lib.hid (fun wx hh => by rw [← HYK.out]; exact (HY6.out wx hh).val (j := 0) (by omega))
      go_wp2_with fail
      refine region_open [.rd (.slice A1 k c1), .rd (.pointer (some ⟨g, 0, none⟩)), .rd (.slice (some ⟨bz, oz, none⟩) 4 d), .rd (.pointer (some ⟨bz, oz, none⟩)), .rd (.int .i64 y0), .rd (.slice (some ⟨bx, ox, none⟩) 4 c), .rd (.int .i64 k), .rd (.pointer (some ⟨bx, ox + k, none⟩)), .rd (.int .i64 xk), .ch (some (.int .i64 N)), .ch none, .ch none, .ch none] (fun yy => GBT 28 lo w yy) [⟨[], fun _ w' => w' = wr.drew⟩,
         ⟨[27], fun l w' => ownF w.heap.size (cints s.1) (.slice A1 k c1) w' ∧ Bld 28 lo hi (s.2.put 4 y0 xk) g w w'⟩,
         ⟨[28], fun l w' => ∃ wq, w' = wq.alloc (.cells #[.int .i64 ((N : Int))] 3) ∧ l.getD 0 undef = .slice (some ⟨wq.heap.size, 0, none⟩) 1 1 ∧ ownF w.heap.size (cints (s.1)) (.slice A1 k c1) wq ∧ Bld 28 lo hi (s.2.put 4 y0 xk) g w wq⟩,
         ⟨[29], fun l w' => ∃ A8 c8, l.getD 0 undef = .slice A8 (k + 1) c8 ∧ ownF w.heap.size (cints (s.1 ++ [(N : Int)])) (.slice A8 (k + 1) c8) w' ∧ Bld 28 lo hi (s.2.put 4 y0 xk) g w w'⟩,
         ⟨[7], fun l w' => ∃ A8 c8, l.getD 0 undef = .slice A8 (k + 1) c8 ∧ ownF w.heap.size (cints (s.1 ++ [(N : Int)])) (.slice A8 (k + 1) c8) w' ∧ Bld 28 lo hi (s.2.put 4 y0 xk) g w w'⟩] (by kernel_rfl) (by kernel_rfl) (by kernel_rfl) 4 (by kernel_rfl) rfl rfl ?_ ?_
      · simp only [hopsOK, hopO, Ko.next, and_true]
        refine ⟨?_, ?_, ?_, ?_, ?_, ?_, ?_, ?_, ?_, ?_, ?_, ?_, ?_⟩
        · intro f w4 hG hold hd
          have hS4 := (BL.out.2).trans (chgDr hG)
          clear hG
          have e7 := hold 7 (by kernel_rfl) (by simp [dsts])
          simp at e7
          clear hold
          (try simp [depsO, dstAt, oAt, Ko.val, bindE, List.filter_cons, bd_data, bd_chain, bd_guard, bd_phase, bd_text, bd_gc] at hd)
          (first | simp [puts, dsts, Act.put, hd, e7] | simp [puts, dsts, Act.put, e7])
          clear hd
          clear e7
          go_wp2_with fail
          exact ⟨rfl, rfl⟩
        · intro f w4 hG hold hd
          have hS4 := (BL.out.2).trans (chgDr hG)
          clear hG
          clear hold
          (try simp [depsO, dstAt, oAt, Ko.val, bindE, List.filter_cons, bd_data, bd_chain, bd_guard, bd_phase, bd_text, bd_gc] at hd)
          (first | simp [puts, dsts, Act.put, hd] | simp [puts, dsts, Act.put])
          clear hd
          go_wp2_with fail
          exact ⟨rfl, rfl⟩
        · intro f w4 hG hold hd
          have hS4 := (BL.out.2).trans (chgDr hG)
          clear hG
          clear hold
          (try simp [depsO, dstAt, oAt, Ko.val, bindE, List.filter_cons, bd_data, bd_chain, bd_guard, bd_phase, bd_text, bd_gc] at hd)
          (first | simp [puts, dsts, Act.put, hd] | simp [puts, dsts, Act.put])
          clear hd
          go_wp2_with fail
          exact ⟨rfl, rfl⟩
        · intro f w4 hG hold hd
          have hS4 := (BL.out.2).trans (chgDr hG)
          clear hG
          clear hold
          (try simp [depsO, dstAt, oAt, Ko.val, bindE, List.filter_cons, bd_data, bd_chain, bd_guard, bd_phase, bd_text, bd_gc] at hd)
          (first | simp [puts, dsts, Act.put, hd] | simp [puts, dsts, Act.put])
          clear hd
          go_wp2_with fail
          exact ⟨rfl, rfl⟩
        · intro f w4 hG hold hd
          have hS4 := (BL.out.2).trans (chgDr hG)
          clear hG
          have k1 := (FY.out) _ hS4
          clear hold
          (try simp [depsO, dstAt, oAt, Ko.val, bindE, List.filter_cons, bd_data, bd_chain, bd_guard, bd_phase, bd_text, bd_gc] at hd)
          (first | simp [puts, dsts, Act.put, hd] | simp [puts, dsts, Act.put])
          clear hd
          go_wp2_with fail
          exact ⟨rfl, rfl⟩
        · intro f w4 hG hold hd
          have hS4 := (BL.out.2).trans (chgDr hG)
          clear hG
          clear hold
          (try simp [depsO, dstAt, oAt, Ko.val, bindE, List.filter_cons, bd_data, bd_chain, bd_guard, bd_phase, bd_text, bd_gc] at hd)
          (first | simp [puts, dsts, Act.put, hd] | simp [puts, dsts, Act.put])
          clear hd
          go_wp2_with fail
          exact ⟨rfl, rfl⟩
        · intro f w4 hG hold hd
          have hS4 := (BL.out.2).trans (chgDr hG)
          clear hG
          clear hold
          (try simp [depsO, dstAt, oAt, Ko.val, bindE, List.filter_cons, bd_data, bd_chain, bd_guard, bd_phase, bd_text, bd_gc] at hd)
          (first | simp [puts, dsts, Act.put, hd] | simp [puts, dsts, Act.put])
          clear hd
          go_wp2_with fail
          exact ⟨rfl, rfl⟩
        · intro f w4 hG hold hd
          have hS4 := (BL.out.2).trans (chgDr hG)
          clear hG
          clear hold
          (try simp [depsO, dstAt, oAt, Ko.val, bindE, List.filter_cons, bd_data, bd_chain, bd_guard, bd_phase, bd_text, bd_gc] at hd)
          (first | simp [puts, dsts, Act.put, hd] | simp [puts, dsts, Act.put])
          clear hd
          go_wp2_with fail
          exact ⟨rfl, rfl⟩
        · intro f w4 hG hold hd
          have hS4 := (BL.out.2).trans (chgDr hG)
          clear hG
          have k0 := (FX.out) _ hS4
          clear hold
          (try simp [depsO, dstAt, oAt, Ko.val, bindE, List.filter_cons, bd_data, bd_chain, bd_guard, bd_phase, bd_text, bd_gc] at hd)
          (first | simp [puts, dsts, Act.put, hd] | simp [puts, dsts, Act.put])
          clear hd
          go_wp2_with fail
          exact ⟨rfl, rfl⟩
        · intro f w4 hG hI hold hd
          have hS4 := (BL.out.2).trans (chgDr hG)
          clear hG
          clear hold
          have hI : w4 = wr.drew := hI
          subst hI
          (try simp [depsO, dstAt, oAt, Ko.val, bindE, List.filter_cons, bd_data, bd_chain, bd_guard, bd_phase, bd_text, bd_gc] at hd)
          (first | simp [puts, dsts, Act.put, hd] | simp [puts, dsts, Act.put])
          clear hd
          go_wp2_with fail
          have hgr : wr.grownBy wr.drew none := gbD (gbR _ none)
          refine (specgate_c s.2 g lo hi 4 y0 xk wr.drew (BL.out.1.grow hgr) (by have := LN.out; omega) (by have := hgr.size; omega)).mono ?_
          rintro e w6 ⟨rfl, b6⟩
          rw [LN.out]
          have B6 := Lib.hid b6
          clear b6
          go_wp2_with fail
          exact ⟨_, rfl, by first | exact isVal.yes | exact isVal.no, ⟨GBT.ownF B6.out.2 hTCI (RO.out.grow hgr), (BL.out.grow hgr).trans B6.out⟩, (GBT.on hS4 (by omega) B6.out.2)⟩
        · intro f w4 hG hI hold hd
          have hS4 := (BL.out.2).trans (chgDr hG)
          clear hG
          clear hold
          have O4 := Lib.hid hI.1
          have B4 := Lib.hid hI.2
          clear hI
          (try simp [depsO, dstAt, oAt, Ko.val, bindE, List.filter_cons, bd_data, bd_chain, bd_guard, bd_phase, bd_text, bd_gc] at hd)
          (first | simp [puts, dsts, Act.put, hd] | simp [puts, dsts, Act.put])
          clear hd
          go_wp2_with fail
          exact ⟨_, rfl, by first | exact isVal.yes | exact isVal.no, ⟨w4, rfl, rfl, O4.out, B4.out⟩, (Chg.of (gbA (gbR w4 none) _) (by simp))⟩
        · intro f w4 hG hI hold hd
          have hS4 := (BL.out.2).trans (chgDr hG)
          clear hG
          clear hold
          obtain ⟨wq, rfl, eB, oq, bq⟩ := hI
          have eB : f 28 = .slice (some ⟨wq.heap.size, 0, none⟩) 1 1 := eB
          have OQ := Lib.hid oq
          have BQ := Lib.hid bq
          have zq := bq.2.size
          clear oq bq
          (try simp [depsO, dstAt, oAt, Ko.val, bindE, List.filter_cons, bd_data, bd_chain, bd_guard, bd_phase, bd_text, bd_gc] at hd)
          (first | simp [puts, dsts, Act.put, hd, eB] | simp [puts, dsts, Act.put, eB])
          clear hd eB
          go_wp2_with (at_builtin; refine wp_pushI2 wq wq.heap.size rfl rfl (.tmp 18) (.tmp 28) rfl ((N : Int)) w.heap.size A1 k c1 (s.1) OQ.out L1.out rfl rfl (by omega) zq ?_; intro A8 c8 w8 O8 C8 C9)
          exact ⟨_, rfl, by first | exact isVal.yes | exact isVal.no, ⟨A8, c8, rfl, O8.out, BQ.out.push C8.out (by omega) (Nat.le_refl _)⟩, (PSH.gbt' C9.out (by omega) (Nat.le_refl _))⟩
        · intro f w4 hG hI hold hd
          have hS4 := (BL.out.2).trans (chgDr hG)
          clear hG
          clear hold
          obtain ⟨A8, c8, eB, oq, bq⟩ := hI
          have eB : f 29 = .slice A8 (k + 1) c8 := eB
          have OQ := Lib.hid oq
          have BQ := Lib.hid bq
          clear oq bq
          (try simp [depsO, dstAt, oAt, Ko.val, bindE, List.filter_cons, bd_data, bd_chain, bd_guard, bd_phase, bd_text, bd_gc] at hd)
          (first | simp [puts, dsts, Act.put, hd, eB] | simp [puts, dsts, Act.put, eB])
          clear hd eB
          go_wp2_with fail
          exact ⟨_, rfl, by first | exact isVal.yes | exact isVal.no, ⟨A8, c8, rfl, OQ.out, BQ.out⟩, (Chg.refl _ _)⟩
      intro f w8 hG hI hd
      have hS5 := (BL.out.2).trans (chgDr hG)
      clear hG
      simp [knowsO, dstAt, Ko.val] at hd
      simp only [puts, dsts, Act.put, hd, List.filterMap_cons, List.filterMap_nil, List.setIfInBounds_toArray, List.set_cons_zero, List.set_cons_succ]
      clear hd
      obtain ⟨A8, c8, e9, o8, b8⟩ := hI
      have e9 : f 7 = .slice A8 (k + 1) c8 := e9
      rw [e9]
      have O9 : Hid (ownF w.heap.size (cints (mulA m x y (k + 1)).1) (.slice A8 (k + 1) c8) w8) := by rw [HST.out]; exact Lib.hid o8
      have B9 : Hid (Bld 28 lo hi (mulA m x y (k + 1)).2 g w w8) := by rw [HST.out]; exact Lib.hid b8
      clear e9 o8 b8 hS5 BL RO
      go_wp2_with fail
      go_roundw
      case rel => exact ⟨k + 1, c8, A8, by omega, by go_num, rfl, O9, B9⟩
      case measure => simp [intOf]; omega
    · have hk4 : k = 4 := by omega
      subst hk4
      clear hst
      rw [show ((4 : Nat) : Int) = 4 from rfl]
      have R9 : Hid (ownF w.heap.size (cints (mulS m x y 0).1) (.slice A1 4 c1) wr) := by show Hid (ownF _ (cints (mulA m x y 4).1) _ _); rw [HS.out]; exact RO
      have BM : Hid (Bld 28 lo hi (mulS m x y 0).2 g w wr) := by show Hid (Bld _ _ _ (mulA m x y 4).2 _ _ _); rw [HS.out]; exact BL
      obtain ⟨wo, hwo⟩ : ∃ wo : World, wo = wr := ⟨_, rfl⟩
      clear RO BL HS L1 hsz hlt LN
      go_wp2_with fail
      rw [← hwo] at R9 BM ⊢
      clear hwo
      go_loopw [7, 9] (fun t i wr => ∃ j c1 : Nat, ∃ A1 : Option Addr, j ≤ 3 ∧ i = .int .i64 ((j + 1 : Nat) : Int) ∧ t = .slice A1 4 c1 ∧ Hid (ownF w.heap.size (cints (mulS m x y j).1) (.slice A1 4 c1) wr) ∧ Hid (Bld 28 lo hi (mulS m x y j).2 g w wr)) (fun _ i _ => 4 - (intOf i).toNat)
      case atStart => exact ⟨0, c1, A1, Nat.zero_le _, rfl, rfl, R9, BM⟩
      case round =>
        clear R9 BM
        obtain ⟨j, c1, A1, hj, rfl, rfl, RO, BL⟩ := hrel
        obtain ⟨ls1, ls2⟩ := mulS_len m x y j hj
        have hsz := BL.out.2.size
        have hA4 : 4 ≤ c1 ∧ c1 ≤ maxLen := by
          obtain ⟨F, h1, _⟩ := RO.out
          obtain ⟨h2, h3, h4, _⟩ := cints_rd' ((cints _).toRd h1)
          exact ⟨h3, h4⟩
        obtain ⟨hA4, hA5⟩ := hA4
        by_cases hj3 : j < 3
        · obtain ⟨s, hs⟩ : ∃ s, mulS m x y j = s := ⟨_, rfl⟩
          have hst : mulS m x y (j + 1) = ((mulS m x y j).1.take (j + 1) ++ (sumS (prodS (mulS m x y j).2 x y (j + 1) (3 - j)).2 ((mulS m x y j).1.drop (j + 1)) (prodS (mulS m x y j).2 x y (j + 1) (3 - j)).1 0 (2 - j)).1, (sumS (prodS (mulS m x y j).2 x y (j + 1) (3 - j)).2 ((mulS m x y j).1.drop (j + 1)) (prodS (mulS m x y j).2 x y (j + 1) (3 - j)).1 0 (2 - j)).2) := rfl
          rw [hs] at ls1 ls2 RO BL hst
          obtain ⟨ii, hii⟩ : ∃ ii, j + 1 = ii := ⟨_, rfl⟩
          rw [hii] at hst ⊢
          obtain ⟨q, hq⟩ : ∃ q, 3 - j = q := ⟨_, rfl⟩
          rw [hq] at hst
          have hq1 : 2 - j = q - 1 := by omega
          rw [hq1] at hst
          have HST := Lib.hid hst
          have HII := Lib.hid hii
          have hii1 : 1 ≤ ii := by omega
          have hii3 : ii ≤ 3 := by omega
          have hqi : q + ii = 4 := by omega
          have i4 : (ii : Int) < 4 := by omega
          have LS1 := Lib.hid ls1
          have HS2 := Lib.hid ls2
          clear hst hii hq hq1 ls1 ls2 hs hj3
          obtain ⟨wp, hwp⟩ : ∃ wp : World, wp = wr := ⟨_, rfl⟩
          rw [← hwp] at RO BL hsz ⊢
          clear hwp
          have SX := Lib.hid (HX6.out.next BL.out.2)
          have SY := Lib.hid (HY6.out.next BL.out.2)
          have SS := Lib.hid (SRV.own (lo := lo) (T := 28) RO.out hTCI)
          obtain ⟨b9, o9, rfl, -, -⟩ := SS.out.now.at_ (by omega)
          obtain ⟨w9, hw9⟩ : ∃ q : World, wp.alloc (.cells #[] 3) = q := ⟨_, rfl⟩
          have G9 : Hid (wp.grownBy w9 none) := by rw [← hw9]; exact Lib.hid (gbA (gbR _ _) _)
          have P9 : Hid (ownF wp.heap.size (cints (prodS s.2 x y ii 0).1) (.slice (some ⟨wp.heap.size, 0, none⟩) 0 0) w9) := by
            rw [← hw9]
            exact Lib.hid (ownF.ints (World.ownsRow_made wp #[] 0 (Nat.le_refl _) (by simp) rfl))
          have BP : Hid (Bld 28 lo hi (prodS s.2 x y ii 0).2 g wp w9) := Lib.hid ⟨BL.out.1.grow G9.out, GBT.grow G9.out⟩
          clear G9
          go_wp2_with fail
          try rw [hw9]
          clear hw9
          go_loopw [10, 11] (fun t i wr => ∃ k c2 : Nat, ∃ A2 : Option Addr, k ≤ q ∧ i = .int .i64 k ∧ t = .slice A2 k c2 ∧ Hid (ownF wp.heap.size (cints (prodS s.2 x y ii k).1) (.slice A2 k c2) wr) ∧ Hid (Bld 28 lo hi (prodS s.2 x y ii k).2 g wp wr)) (fun _ i _ => q - (intOf i).toNat)
          case atStart => exact ⟨0, 0, _, Nat.zero_le _, rfl, rfl, P9, BP⟩
          case round =>
            clear P9 BP
            obtain ⟨k, c2, A2, hk, rfl, rfl, PO, PB⟩ := hrel
            obtain ⟨lp1, lp2⟩ := prodS_len s.2 x y ii k
            have hst : prodS s.2 x y ii (k + 1) = ((prodS s.2 x y ii k).1 ++ [((prodS s.2 x y ii k).2.gt.length : Int)], (prodS s.2 x y ii k).2.put 4 (y.getD ii 0) (x.getD k 0)) := rfl
            obtain ⟨u, hu⟩ : ∃ u, prodS s.2 x y ii k = u := ⟨_, rfl⟩
            rw [hu] at lp1 lp2 PO PB hst
            have HU := Lib.hid hu
            have LP1 := Lib.hid lp1
            have hsp := PB.out.2.size
            obtain ⟨N, hN⟩ : ∃ N, u.2.gt.length = N := ⟨_, rfl⟩
            rw [hN] at lp2 hst
            have LN := Lib.hid hN
            have lN : N ≤ 45000 := by have := HS2.out; omega
            clear hN lp2 hu lp1
            by_cases hkq : k < q
            · have i5 : (k : Int) < 4 - (ii : Int) := by omega
              have i6 : (k : Int) < 4 := by omega
              obtain ⟨xk, hxk⟩ : ∃ q, x.getD k 0 = q := ⟨_, rfl⟩
              obtain ⟨yi, hyi⟩ : ∃ q, y.getD ii 0 = q := ⟨_, rfl⟩
              rw [hxk, hyi] at hst
              have HSU := Lib.hid hst
              have HXK := Lib.hid hxk
              have HYK := Lib.hid hyi
              clear hst hxk hyi
              have FX : Hid (∀ wx, Chg (GBT 28 lo wp) wp wx → wx.cell? ⟨bx, ox + k, none⟩ = some (.int .i64 xk)) := Lib.hid (fun wx hh => by rw [← HXK.out]; exact (SX.out wx hh).val (by omega))
              have FY : Hid (∀ wx, Chg (GBT 28 lo wp) wp wx → wx.cell? ⟨bz, oz + ii, none⟩ = some (.int .i64 yi)) := Lib.hid (fun wx hh => by rw [← HYK.out]; exact (SY.out wx hh).val (by omega))
              have LNX := Lib.hid lN
              go_wp2_with fail
              refine region_open [.rd (.slice A2 k c2), .rd (.pointer (some ⟨g, 0, none⟩)), .rd (.slice (some ⟨bz, oz, none⟩) 4 d), .rd (.int .i64 ii), .rd (.pointer (some ⟨bz, oz + ii, none⟩)), .rd (.int .i64 yi), .rd (.slice (some ⟨bx, ox, none⟩) 4 c), .rd (.int .i64 k), .rd (.pointer (some ⟨bx, ox + k, none⟩)), .rd (.int .i64 xk), .ch (some (.int .i64 N)), .ch none, .ch none, .ch none] (fun yy => GBT 28 lo wp yy) [⟨[], fun _ w' => w' = wr.drew⟩,
                 ⟨[51], fun l w' => ownF wp.heap.size (cints u.1) (.slice A2 k c2) w' ∧ Bld 28 lo hi (u.2.put 4 yi xk) g wp w'⟩,
                 ⟨[52], fun l w' => ∃ wq, w' = wq.alloc (.cells #[.int .i64 ((N : Int))] 3) ∧ l.getD 0 undef = .slice (some ⟨wq.heap.size, 0, none⟩) 1 1 ∧ ownF wp.heap.size (cints (u.1)) (.slice A2 k c2) wq ∧ Bld 28 lo hi (u.2.put 4 yi xk) g wp wq⟩,
                 ⟨[53], fun l w' => ∃ A8 c8, l.getD 0 undef = .slice A8 (k + 1) c8 ∧ ownF wp.heap.size (cints (u.1 ++ [(N : Int)])) (.slice A8 (k + 1) c8) w' ∧ Bld 28 lo hi (u.2.put 4 yi xk) g wp w'⟩,
                 ⟨[10], fun l w' => ∃ A8 c8, l.getD 0 undef = .slice A8 (k + 1) c8 ∧ ownF wp.heap.size (cints (u.1 ++ [(N : Int)])) (.slice A8 (k + 1) c8) w' ∧ Bld 28 lo hi (u.2.put 4 yi xk) g wp w'⟩] (by kernel_rfl) (by kernel_rfl) (by kernel_rfl) 4 (by kernel_rfl) rfl rfl ?_ ?_
              · simp only [hopsOK, hopO, Ko.next, and_true]
                refine ⟨?_, ?_, ?_, ?_, ?_, ?_, ?_, ?_, ?_, ?_, ?_, ?_, ?_, ?_⟩
                · intro f w4 hG hold hd
                  have hS4 := (PB.out.2).trans (chgDr hG)
                  clear hG
                  have e10 := hold 10 (by kernel_rfl) (by simp [dsts])
                  simp at e10
                  clear hold
                  (try simp [depsO, dstAt, oAt, Ko.val, bindE, List.filter_cons, bd_data, bd_chain, bd_guard, bd_phase, bd_text, bd_gc] at hd)
                  (first | simp [puts, dsts, Act.put, hd, e10] | simp [puts, dsts, Act.put, e10])
                  clear hd
                  clear e10
                  go_wp2_with fail
                  exact ⟨rfl, rfl⟩
                · intro f w4 hG hold hd
                  have hS4 := (PB.out.2).trans (chgDr hG)
                  clear hG
                  clear hold
                  (try simp [depsO, dstAt, oAt, Ko.val, bindE, List.filter_cons, bd_data, bd_chain, bd_guard, bd_phase, bd_text, bd_gc] at hd)
                  (first | simp [puts, dsts, Act.put, hd] | simp [puts, dsts, Act.put])
                  clear hd
                  go_wp2_with fail
                  exact ⟨rfl, rfl⟩
                · intro f w4 hG hold hd
                  have hS4 := (PB.out.2).trans (chgDr hG)
                  clear hG
                  clear hold
                  (try simp [depsO, dstAt, oAt, Ko.val, bindE, List.filter_cons, bd_data, bd_chain, bd_guard, bd_phase, bd_text, bd_gc] at hd)
                  (first | simp [puts, dsts, Act.put, hd] | simp [puts, dsts, Act.put])
                  clear hd
                  go_wp2_with fail
                  exact ⟨rfl, rfl⟩
                · intro f w4 hG hold hd
                  have hS4 := (PB.out.2).trans (chgDr hG)
                  clear hG
                  clear hold
                  (try simp [depsO, dstAt, oAt, Ko.val, bindE, List.filter_cons, bd_data, bd_chain, bd_guard, bd_phase, bd_text, bd_gc] at hd)
                  (first | simp [puts, dsts, Act.put, hd] | simp [puts, dsts, Act.put])
                  clear hd
                  go_wp2_with fail
                  exact ⟨rfl, rfl⟩
                · intro f w4 hG hold hd
                  have hS4 := (PB.out.2).trans (chgDr hG)
                  clear hG
                  clear hold
                  (try simp [depsO, dstAt, oAt, Ko.val, bindE, List.filter_cons, bd_data, bd_chain, bd_guard, bd_phase, bd_text, bd_gc] at hd)
                  (first | simp [puts, dsts, Act.put, hd] | simp [puts, dsts, Act.put])
                  clear hd
                  go_wp2_with fail
                  exact ⟨rfl, rfl⟩
                · intro f w4 hG hold hd
                  have hS4 := (PB.out.2).trans (chgDr hG)
                  clear hG
                  have k1 := (FY.out) _ hS4
                  clear hold
                  (try simp [depsO, dstAt, oAt, Ko.val, bindE, List.filter_cons, bd_data, bd_chain, bd_guard, bd_phase, bd_text, bd_gc] at hd)
                  (first | simp [puts, dsts, Act.put, hd] | simp [puts, dsts, Act.put])
                  clear hd
                  go_wp2_with fail
                  exact ⟨rfl, rfl⟩
                · intro f w4 hG hold hd
                  have hS4 := (PB.out.2).trans (chgDr hG)
                  clear hG
                  clear hold
                  (try simp [depsO, dstAt, oAt, Ko.val, bindE, List.filter_cons, bd_data, bd_chain, bd_guard, bd_phase, bd_text, bd_gc] at hd)
                  (first | simp [puts, dsts, Act.put, hd] | simp [puts, dsts, Act.put])
                  clear hd
                  go_wp2_with fail
                  exact ⟨rfl, rfl⟩
                · intro f w4 hG hold hd
                  have hS4 := (PB.out.2).trans (chgDr hG)
                  clear hG
                  clear hold
                  (try simp [depsO, dstAt, oAt, Ko.val, bindE, List.filter_cons, bd_data, bd_chain, bd_guard, bd_phase, bd_text, bd_gc] at hd)
                  (first | simp [puts, dsts, Act.put, hd] | simp [puts, dsts, Act.put])
                  clear hd
                  go_wp2_with fail
                  exact ⟨rfl, rfl⟩
                · intro f w4 hG hold hd
                  have hS4 := (PB.out.2).trans (chgDr hG)
                  clear hG
                  clear hold
                  (try simp [depsO, dstAt, oAt, Ko.val, bindE, List.filter_cons, bd_data, bd_chain, bd_guard, bd_phase, bd_text, bd_gc] at hd)
                  (first | simp [puts, dsts, Act.put, hd] | simp [puts, dsts, Act.put])
                  clear hd
                  go_wp2_with fail
                  exact ⟨rfl, rfl⟩
                · intro f w4 hG hold hd
                  have hS4 := (PB.out.2).trans (chgDr hG)
                  clear hG
                  have k0 := (FX.out) _ hS4
                  clear hold
                  (try simp [depsO, dstAt, oAt, Ko.val, bindE, List.filter_cons, bd_data, bd_chain, bd_guard, bd_phase, bd_text, bd_gc] at hd)
                  (first | simp [puts, dsts, Act.put, hd] | simp [puts, dsts, Act.put])
                  clear hd
                  go_wp2_with fail
                  exact ⟨rfl, rfl⟩
                · intro f w4 hG hI hold hd
                  have hS4 := (PB.out.2).trans (chgDr hG)
                  clear hG
                  clear hold
                  have hI : w4 = wr.drew := hI
                  subst hI
                  (try simp [depsO, dstAt, oAt, Ko.val, bindE, List.filter_cons, bd_data, bd_chain, bd_guard, bd_phase, bd_text, bd_gc] at hd)
                  (first | simp [puts, dsts, Act.put, hd] | simp [puts, dsts, Act.put])
                  clear hd
                  go_wp2_with fail
                  have hgr : wr.grownBy wr.drew none := gbD (gbR _ none)
                  refine (specgate_c u.2 g lo hi 4 yi xk wr.drew (PB.out.1.grow hgr) (by have := LN.out; omega) (by have := hgr.size; omega)).mono ?_
                  rintro e w6 ⟨rfl, b6⟩
                  rw [LN.out]
                  have B6 := Lib.hid b6
                  clear b6
                  go_wp2_with fail
                  exact ⟨_, rfl, by first | exact isVal.yes | exact isVal.no, ⟨GBT.ownF B6.out.2 hTCI (PO.out.grow hgr), (PB.out.grow hgr).trans B6.out⟩, (GBT.on hS4 (by omega) B6.out.2)⟩
                · intro f w4 hG hI hold hd
                  have hS4 := (PB.out.2).trans (chgDr hG)
                  clear hG
                  clear hold
                  have O4 := Lib.hid hI.1
                  have B4 := Lib.hid hI.2
                  clear hI
                  (try simp [depsO, dstAt, oAt, Ko.val, bindE, List.filter_cons, bd_data, bd_chain, bd_guard, bd_phase, bd_text, bd_gc] at hd)
                  (first | simp [puts, dsts, Act.put, hd] | simp [puts, dsts, Act.put])
                  clear hd
                  go_wp2_with fail
                  exact ⟨_, rfl, by first | exact isVal.yes | exact isVal.no, ⟨w4, rfl, rfl, O4.out, B4.out⟩, (Chg.of (gbA (gbR w4 none) _) (by simp))⟩
                · intro f w4 hG hI hold hd
                  have hS4 := (PB.out.2).trans (chgDr hG)
                  clear hG
                  clear hold
                  obtain ⟨wq, rfl, eB, oq, bq⟩ := hI
                  have eB : f 52 = .slice (some ⟨wq.heap.size, 0, none⟩) 1 1 := eB
                  have OQ := Lib.hid oq
                  have BQ := Lib.hid bq
                  have zq := bq.2.size
                  clear oq bq
                  (try simp [depsO, dstAt, oAt, Ko.val, bindE, List.filter_cons, bd_data, bd_chain, bd_guard, bd_phase, bd_text, bd_gc] at hd)
                  (first | simp [puts, dsts, Act.put, hd, eB] | simp [puts, dsts, Act.put, eB])
                  clear hd eB
                  go_wp2_with (at_builtin; refine wp_pushI2 wq wq.heap.size rfl rfl (.tmp 41) (.tmp 52) rfl ((N : Int)) wp.heap.size A2 k c2 (u.1) OQ.out LP1.out rfl rfl (by omega) zq ?_; intro A8 c8 w8 O8 C8 C9)
                  exact ⟨_, rfl, by first | exact isVal.yes | exact isVal.no, ⟨A8, c8, rfl, O8.out, BQ.out.push C8.out (by omega) (Nat.le_refl _)⟩, (PSH.gbt' C9.out (by omega) (Nat.le_refl _))⟩
                · intro f w4 hG hI hold hd
                  have hS4 := (PB.out.2).trans (chgDr hG)
                  clear hG
                  clear hold
                  obtain ⟨A8, c8, eB, oq, bq⟩ := hI
                  have eB : f 53 = .slice A8 (k + 1) c8 := eB
                  have OQ := Lib.hid oq
                  have BQ := Lib.hid bq
                  clear oq bq
                  (try simp [depsO, dstAt, oAt, Ko.val, bindE, List.filter_cons, bd_data, bd_chain, bd_guard, bd_phase, bd_text, bd_gc] at hd)
                  (first | simp [puts, dsts, Act.put, hd, eB] | simp [puts, dsts, Act.put, eB])
                  clear hd eB
                  go_wp2_with fail
                  exact ⟨_, rfl, by first | exact isVal.yes | exact isVal.no, ⟨A8, c8, rfl, OQ.out, BQ.out⟩, (Chg.refl _ _)⟩
              intro f w8 hG hI hd
              have hS5 := (PB.out.2).trans (chgDr hG)
              clear hG
              simp [knowsO, dstAt, Ko.val] at hd
              simp only [puts, dsts, Act.put, hd, List.filterMap_cons, List.filterMap_nil, List.setIfInBounds_toArray, List.set_cons_zero, List.set_cons_succ]
              clear hd
              obtain ⟨A8, c8, e9, o8, b8⟩ := hI
              have e9 : f 10 = .slice A8 (k + 1) c8 := e9
              rw [e9]
              have O9 : Hid (ownF wp.heap.size (cints (prodS s.2 x y ii (k + 1)).1) (.slice A8 (k + 1) c8) w8) := by rw [HSU.out]; exact Lib.hid o8
              have B9 : Hid (Bld 28 lo hi (prodS s.2 x y ii (k + 1)).2 g wp w8) := by rw [HSU.out]; exact Lib.hid b8
              clear e9 o8 b8 hS5 PB PO
              go_wp2_with fail
              go_roundw
              case rel => exact ⟨k + 1, c8, A8, by omega, by go_num, rfl, O9, B9⟩
              case measure => simp [intOf]; omega
            · have hkq' : k = q := by omega
              subst hkq'
              have i5 : ¬ (k : Int) < 4 - (ii : Int) := by omega
              rw [HU.out] at HST
              clear hst HU hkq
              go_wp2_with fail
              have hqi' : 4 - ii = k := by omega
              rw [hqi']
              obtain ⟨SML1, SML2⟩ := sumS_len u.2 (s.1.drop ii) u.1 0 (k - 1)
              refine (specl14Sum_c u.2 g lo hi _ _ _ _ (s.1.drop ii) u.1 0 (k - 1) k wr PB.out.1 (by omega) (by have := SRV.drop (k := ii) (SS.out.next PB.out.2) (by omega); rwa [hqi'] at this) (SRV.own PO.out hTCI) (by have := LN.out; omega) (by omega) (by omega) (by omega)).mono ?_
              rintro e w5 ⟨v5, rfl, o5, b5⟩
              obtain ⟨T, hT⟩ : ∃ T, sumS u.2 (s.1.drop ii) u.1 0 (k - 1) = T := ⟨_, rfl⟩
              rw [hT] at o5 b5 SML1 HST
              obtain ⟨A5, c5, rfl, o5⟩ := o5.row
              rw [show T.1.length = k by omega] at o5 ⊢
              have IO : Ints w5 A5 k T.1 := by
                obtain ⟨F, h1, _⟩ := o5
                exact (cints_rd' ((cints _).toRd h1)).2.2.2
              have IS := ((SS.out.next PB.out.2).next b5.2).now.take (k := ii) (by omega)
              have B5 := Lib.hid (PB.out.trans b5)
              have hz5 := b5.2.size
              have hzw := PB.out.2.size
              have HIO := Lib.hid IO
              have HIS := Lib.hid IS
              clear hT SML1 SML2 o5 b5 IO IS PB PO
              have OE := Lib.hid (World.ownsRow_made w5 (base := 0) (e := 3) (size := 1) #[] 0 (Nat.zero_le _) (by simp) rfl)
              have gE := gbA (gbR w5 none) (.cells #[] 3)
              go_wp2_with (at_builtin; first | (refine wp_appendE _ el_int rfl (.tmp 60) (.tmp 63) rfl w5.heap.size OE.out rfl (some ⟨b9, o9, none⟩) ii c1 _ rfl (HIS.out.grow gE) (ints_one _) (by unfold maxLen; omega) (by omega) ?_; intro v6 w6 o6 g6 n6; obtain ⟨A6, c6, hv6, _⟩ := own_form o6; subst hv6; have r6 : w6.ownsRow w5.heap.size 3 1 (.slice A6 ii c6) ii ((s.1.take ii).map (Value.int .i64)) := (own_lo o6 (fun g' hg' => by rcases n6 g' hg' with e | e; exact Nat.le_of_eq e.symm; simp at e; omega)); have R6 := Lib.hid r6; have GE6 := Lib.hid (gbT gE g6); have hz6 := GE6.out.size; clear o6 g6 n6 r6) | (refine wp_appendS w6 el_int rfl (.tmp 64) (.tmp 65) rfl w5.heap.size _ ii _ R6.out rfl A5 k c5 _ rfl (HIO.out.grow GE6.out) (ints_one _) (by unfold maxLen; omega) (by omega) (by omega) ?_; intro v7 w7 o7 g7; obtain ⟨A7, c7, hv7, _⟩ := own_form o7; subst hv7; have O7 := Lib.hid o7; have G7 := Lib.hid g7; clear o7 g7))
              have h4 : ii + k = 4 := by omega
              have hT7 : Hid (ownF w.heap.size (cints (mulS m x y (j + 1)).1) (.slice A7 4 c7) w7) := by
                have o7 := O7.out
                rw [← List.map_append] at o7
                rw [h4] at o7
                rw [HII.out, HST.out]
                exact Lib.hid ((ownF.ints o7).lo (by omega))
              have hP7 : Chg (PSH w5.heap.size w6) w6 w7 := (Chg.of G7.out (fun y hy => hy) : Chg (fun y => (Value.slice A6 ii c6).ownBlock = some y) w6 w7).mono (fun y hy => by
                obtain ⟨cur, hB9, hb9⟩ := own_blk9 R6.out hy
                exact ⟨hb9, cur, hB9⟩)
              have BZ : Hid (Bld 28 lo hi (mulS m x y (j + 1)).2 g w w7) := by
                rw [HII.out, HST.out]
                exact Lib.hid (BL.out.trans ((B5.out.grow GE6.out).push hP7 (by omega) (by omega)))
              have HII' := HII.out
              clear hP7
              rw [h4]
              go_roundw
              case rel => exact ⟨j + 1, c7, A7, by omega, by rw [HII']; go_num, rfl, hT7, BZ⟩
              case measure => simp [intOf]; omega
        · have hj4 : j = 3 := by omega
          subst hj4
          go_wp2_with fail
          refine bodyPost_ret (by simp [results, Try.results65]; rfl) rfl ?_
          exact ⟨_, rfl, RO.out, BL.out⟩
end Go.Proofs.Ythdfkiaoahpjpaa
