/-
  The reference's builders: sums.
-/
import Derived.Test.YthdfkiaoahpjpaaMgFnConstantCircuits35
namespace Go.Proofs.Ythdfkiaoahpjpaa
open Go.RowKit
set_option linter.unusedVariables false
set_option linter.unusedSimpArgs false
def sumG (s : List Int × Int × CM) (x y : List Int) (n : Nat) : List Int × CM := (s.1 ++ [(s.2.2.gt.length : Int) + 1], (s.2.2.put 3 (x.getD n 0) (y.getD n 0)).put 3 s.2.2.gt.length s.2.1)
def sumS (m : CM) (x y : List Int) (cy : Int) (n : Nat) : List Int × CM := sumG (sumTo m x y cy 0 n) x y n
theorem sumS_len (m : CM) (x y : List Int) (cy : Int) (n : Nat) : (sumS m x y cy n).1.length = n + 1 ∧ (sumS m x y cy n).2.gt.length = m.gt.length + 3 + 5 * n := by
  obtain ⟨h1, h2⟩ := sumTo_len m x y cy 0 (Nat.zero_le _) n
  unfold sumS sumG
  exact ⟨by simp [h1], by simp only [put_len, h2]; omega⟩
set_option maxHeartbeats 4000000 in
set_option maxRecDepth 100000 in
theorem specl14Sum_c (m : CM) (g lo hi : Nat) (A B : Option Addr) (c d : Nat) (x y : List Int) (cy : Int) (n l : Nat) (w : World) (h : BS 28 lo hi m g w) (hl : l = n + 1) (hx : SRV 28 lo w A l x) (hy : SRV 28 lo w B l y) (hm : m.gt.length ≤ 50000) (hn : n ≤ 3) (hlo : lo ≤ w.heap.size) (hhi : hi ≤ w.heap.size) :
    Calls Try.prog 66 #[.pointer (some ⟨g, 0, none⟩), .slice A l c, .slice B l d, .int .i64 cy] w fun e w' => ∃ v, e = .returned v ∧ ownF w.heap.size (cints (sumS m x y cy n).1) v w' ∧ Bld 28 lo hi (sumS m x y cy n).2 g w w' := by
  obtain ⟨bx, ox, rfl, _, _⟩ := hx.now.at_ (by omega)
  obtain ⟨by', oy, rfl, _, _⟩ := hy.now.at_ (by omega)
  have HX := Lib.hid hx
  have HY := Lib.hid hy
  have HS := Lib.hid h
  have HL := Lib.hid hl
  have hnl : n < l := by omega
  have hl4 : l ≤ 4 := by omega
  have SL := Lib.hid (sumTo_len m x y cy 0 (Nat.zero_le _))
  obtain ⟨w1, hw1⟩ : ∃ q : World, w.alloc (.cells #[] 3) = q := ⟨_, rfl⟩
  have G1 : Hid (w.grownBy w1 none) := by rw [← hw1]; exact Lib.hid (gbA (gbR _ _) _)
  have O1 : Hid (ownF w.heap.size (cints []) (.slice (some ⟨w.heap.size, 0, none⟩) 0 0) w1) := by
    rw [← hw1]
    exact Lib.hid (ownF.ints (World.ownsRow_made w #[] 0 (Nat.le_refl _) (by simp) rfl))
  have z1 := G1.out.size
  clear h hx hy hl
  go_enter Try.func66, Try.ntmps66
  go_wp2_with fail
  clear hw1
  refine (specgate_c m g lo hi 2 cy 0 w1 (HS.out.grow G1.out) (by omega) (by omega)).mono ?_
  rintro e w2 ⟨rfl, b2⟩
  have BL : Hid (Bld 28 lo hi (sumTo m x y cy 0 0).2.2 g w w2) := Lib.hid ((show Bld 28 lo hi m g w w1 from ⟨HS.out.grow G1.out, GBT.grow G1.out⟩).trans b2)
  have O2 : Hid (ownF w.heap.size (cints (sumTo m x y cy 0 0).1) (.slice (some ⟨w.heap.size, 0, none⟩) 0 0) w2) := by
    rw [show (sumTo m x y cy 0 0).1 = [] from by simp [sumTo]]
    exact Lib.hid (GBT.ownF b2.2 hTCI O1.out)
  clear b2 O1 G1 z1
  go_wp2_with fail
  rw [show (l : Int) - 1 = (n : Int) by have := HL.out; omega]
  go_loopw [9, 10, 12] (fun t q i wr => ∃ k c1 : Nat, ∃ A1 : Option Addr, k ≤ n ∧ i = .int .i64 k ∧ q = .int .i64 (sumTo m x y cy 0 k).2.1 ∧ t = .slice A1 k c1 ∧ Hid (ownF w.heap.size (cints (sumTo m x y cy 0 k).1) (.slice A1 k c1) wr) ∧ Hid (Bld 28 lo hi (sumTo m x y cy 0 k).2.2 g w wr)) (fun _ _ i _ => n - (intOf i).toNat)
  case atStart => exact ⟨0, 0, _, Nat.zero_le _, rfl, rfl, rfl, O2, BL⟩
  case round =>
    clear O2 BL
    obtain ⟨k, c1, A1, hk, rfl, rfl, rfl, O2, BL⟩ := hrel
    obtain ⟨l1, l2⟩ := SL.out k
    have hst : sumTo m x y cy 0 (k + 1) = ((sumTo m x y cy 0 k).1 ++ [((sumTo m x y cy 0 k).2.2.gt.length : Int) + 2], ((sumTo m x y cy 0 k).2.2.gt.length : Int) + 4, adderM (sumTo m x y cy 0 k).2.2 (x.getD k 0) (y.getD k 0) (sumTo m x y cy 0 k).2.1) := by rw [sumTo, Nat.zero_add]
    have HST := Lib.hid hst
    obtain ⟨s, hs⟩ : ∃ s, sumTo m x y cy 0 k = s := ⟨_, rfl⟩
    rw [hs] at l1 l2 O2 BL HST ⊢
    rw [Nat.zero_add] at l1
    have L1 := Lib.hid l1
    have HSK := Lib.hid hs
    have hsz := BL.out.2.size
    obtain ⟨N, hN⟩ : ∃ N, s.2.2.gt.length = N := ⟨_, rfl⟩
    rw [hN] at l2 HST
    have LN := Lib.hid hN
    have LL2 := Lib.hid l2
    have lN : N ≤ 60000 := by omega
    clear hst l1 hs hN l2
    by_cases hlt : k < n
    · have i1 : (k : Int) < (n : Int) := by omega
      have i2 : (k : Int) < (l : Int) := by omega
      obtain ⟨xk, hxk⟩ : ∃ q, x.getD k 0 = q := ⟨_, rfl⟩
      obtain ⟨yk, hyk⟩ : ∃ q, y.getD k 0 = q := ⟨_, rfl⟩
      rw [hxk, hyk] at HST
      have HXK := Lib.hid hxk
      have HYK := Lib.hid hyk
      clear hxk hyk
      have FX : Hid (∀ wx, Chg (GBT 28 lo w) w wx → wx.cell? ⟨bx, ox + k, none⟩ = some (.int .i64 xk)) := Lib.hid (fun wx hh => by rw [← HXK.out]; exact (HX.out wx hh).val (by omega))
      have FY : Hid (∀ wx, Chg (GBT 28 lo w) w wx → wx.cell? ⟨by', oy + k, none⟩ = some (.int .i64 yk)) := Lib.hid (fun wx hh => by rw [← HYK.out]; exact (HY.out wx hh).val (by omega))
      go_wp2_with fail
      refine region_open [.rd (.pointer (some ⟨g, 0, none⟩)), .rd (.slice (some ⟨bx, ox, none⟩) l c), .rd (.int .i64 k), .rd (.pointer (some ⟨bx, ox + k, none⟩)), .rd (.int .i64 xk), .rd (.slice (some ⟨by', oy, none⟩) l d), .rd (.int .i64 k), .rd (.pointer (some ⟨by', oy + k, none⟩)), .rd (.int .i64 yk), .rd (.int .i64 s.2.1), .ch (some (.tuple #[.int .i64 ((N : Int) + 2), .int .i64 ((N : Int) + 4)])), .rd (.tuple #[.int .i64 ((N : Int) + 2), .int .i64 ((N : Int) + 4)]), .rd (.int .i64 ((N : Int) + 2)), .rd (.int .i64 ((N : Int) + 4)), .rd (.int .i64 ((N : Int) + 2)), .rd (.int .i64 ((N : Int) + 4))] (fun yy => GBT 28 lo w yy) [⟨[], fun _ w' => w' = wr.drew⟩,
         ⟨[39], fun l w' => l.getD 0 undef = .tuple #[.int .i64 ((N : Int) + 2), .int .i64 ((N : Int) + 4)] ∧ ownF w.heap.size (cints s.1) (.slice A1 k c1) w' ∧ Bld 28 lo hi (adderM s.2.2 xk yk s.2.1) g w w'⟩] (by kernel_rfl) (by kernel_rfl) (by kernel_rfl) 1 (by kernel_rfl) rfl rfl ?_ ?_
      · simp only [hopsOK, hopO, Ko.next, and_true]
        refine ⟨?_, ?_, ?_, ?_, ?_, ?_, ?_, ?_, ?_, ?_, ?_, ?_, ?_, ?_, ?_, ?_⟩
        · intro f w4 hG hold hd
          have hS4 := (BL.out.2).trans (chgDr hG)
          clear hG
          clear hold
          (try simp [depsO, dstAt, oAt, Ko.val, bindE, List.filter_cons, bd_data, bd_chain, bd_guard, bd_phase, bd_text, bd_gc] at hd)
          (first | simp [puts, dsts, Act.put, hd] | simp [puts, dsts, Act.put])
          clear hd
          go_wp2_with fail
          exact ⟨rfl, rfl⟩
        · intro f w4 hG hold hd
          have hS4 := (BL.out.2).trans (chgDr hG)
          clear hG
          clear hold
          (try simp [depsO, dstAt, oAt, Ko.val, bindE, List.filter_cons, bd_data, bd_chain, bd_guard, bd_phase, bd_text, bd_gc] at hd)
          (first | simp [puts, dsts, Act.put, hd] | simp [puts, dsts, Act.put])
          clear hd
          go_wp2_with fail
          exact ⟨rfl, rfl⟩
        · intro f w4 hG hold hd
          have hS4 := (BL.out.2).trans (chgDr hG)
          clear hG
          clear hold
          (try simp [depsO, dstAt, oAt, Ko.val, bindE, List.filter_cons, bd_data, bd_chain, bd_guard, bd_phase, bd_text, bd_gc] at hd)
          (first | simp [puts, dsts, Act.put, hd] | simp [puts, dsts, Act.put])
          clear hd
          go_wp2_with fail
          exact ⟨rfl, rfl⟩
        · intro f w4 hG hold hd
          have hS4 := (BL.out.2).trans (chgDr hG)
          clear hG
          clear hold
          (try simp [depsO, dstAt, oAt, Ko.val, bindE, List.filter_cons, bd_data, bd_chain, bd_guard, bd_phase, bd_text, bd_gc] at hd)
          (first | simp [puts, dsts, Act.put, hd] | simp [puts, dsts, Act.put])
          clear hd
          go_wp2_with fail
          exact ⟨rfl, rfl⟩
        · intro f w4 hG hold hd
          have hS4 := (BL.out.2).trans (chgDr hG)
          clear hG
          have k0 := (FX.out) _ hS4
          clear hold
          (try simp [depsO, dstAt, oAt, Ko.val, bindE, List.filter_cons, bd_data, bd_chain, bd_guard, bd_phase, bd_text, bd_gc] at hd)
          (first | simp [puts, dsts, Act.put, hd] | simp [puts, dsts, Act.put])
          clear hd
          go_wp2_with fail
          exact ⟨rfl, rfl⟩
        · intro f w4 hG hold hd
          have hS4 := (BL.out.2).trans (chgDr hG)
          clear hG
          clear hold
          (try simp [depsO, dstAt, oAt, Ko.val, bindE, List.filter_cons, bd_data, bd_chain, bd_guard, bd_phase, bd_text, bd_gc] at hd)
          (first | simp [puts, dsts, Act.put, hd] | simp [puts, dsts, Act.put])
          clear hd
          go_wp2_with fail
          exact ⟨rfl, rfl⟩
        · intro f w4 hG hold hd
          have hS4 := (BL.out.2).trans (chgDr hG)
          clear hG
          clear hold
          (try simp [depsO, dstAt, oAt, Ko.val, bindE, List.filter_cons, bd_data, bd_chain, bd_guard, bd_phase, bd_text, bd_gc] at hd)
          (first | simp [puts, dsts, Act.put, hd] | simp [puts, dsts, Act.put])
          clear hd
          go_wp2_with fail
          exact ⟨rfl, rfl⟩
        · intro f w4 hG hold hd
          have hS4 := (BL.out.2).trans (chgDr hG)
          clear hG
          clear hold
          (try simp [depsO, dstAt, oAt, Ko.val, bindE, List.filter_cons, bd_data, bd_chain, bd_guard, bd_phase, bd_text, bd_gc] at hd)
          (first | simp [puts, dsts, Act.put, hd] | simp [puts, dsts, Act.put])
          clear hd
          go_wp2_with fail
          exact ⟨rfl, rfl⟩
        · intro f w4 hG hold hd
          have hS4 := (BL.out.2).trans (chgDr hG)
          clear hG
          have k1 := (FY.out) _ hS4
          clear hold
          (try simp [depsO, dstAt, oAt, Ko.val, bindE, List.filter_cons, bd_data, bd_chain, bd_guard, bd_phase, bd_text, bd_gc] at hd)
          (first | simp [puts, dsts, Act.put, hd] | simp [puts, dsts, Act.put])
          clear hd
          go_wp2_with fail
          exact ⟨rfl, rfl⟩
        · intro f w4 hG hold hd
          have hS4 := (BL.out.2).trans (chgDr hG)
          clear hG
          clear hold
          (try simp [depsO, dstAt, oAt, Ko.val, bindE, List.filter_cons, bd_data, bd_chain, bd_guard, bd_phase, bd_text, bd_gc] at hd)
          (first | simp [puts, dsts, Act.put, hd] | simp [puts, dsts, Act.put])
          clear hd
          go_wp2_with fail
          exact ⟨rfl, rfl⟩
        · intro f w4 hG hI hold hd
          have hS4 := (BL.out.2).trans (chgDr hG)
          clear hG
          clear hold
          have hI : w4 = wr.drew := hI
          subst hI
          (try simp [depsO, dstAt, oAt, Ko.val, bindE, List.filter_cons, bd_data, bd_chain, bd_guard, bd_phase, bd_text, bd_gc] at hd)
          (first | simp [puts, dsts, Act.put, hd] | simp [puts, dsts, Act.put])
          clear hd
          go_wp2_with fail
          have hgr : wr.grownBy wr.drew none := gbD (gbR _ none)
          refine (specl14Full_c s.2.2 g lo hi xk yk s.2.1 wr.drew (BL.out.1.grow hgr) (by have := LN.out; omega) (by have := hgr.size; omega)).mono ?_
          rintro e w6 ⟨rfl, b6⟩
          rw [LN.out]
          have B6 := Lib.hid b6
          clear b6
          go_wp2_with fail
          exact ⟨_, rfl, by first | exact isVal.yes | exact isVal.no, ⟨rfl, GBT.ownF B6.out.2 hTCI (O2.out.grow hgr), (BL.out.grow hgr).trans B6.out⟩, (GBT.on hS4 hlo B6.out.2)⟩
        · intro f w4 hG hold hd
          have hS4 := (BL.out.2).trans (chgDr hG)
          clear hG
          clear hold
          (try simp [depsO, dstAt, oAt, Ko.val, bindE, List.filter_cons, bd_data, bd_chain, bd_guard, bd_phase, bd_text, bd_gc] at hd)
          (first | simp [puts, dsts, Act.put, hd] | simp [puts, dsts, Act.put])
          clear hd
          go_wp2_with fail
          exact ⟨rfl, rfl⟩
        · intro f w4 hG hold hd
          have hS4 := (BL.out.2).trans (chgDr hG)
          clear hG
          clear hold
          (try simp [depsO, dstAt, oAt, Ko.val, bindE, List.filter_cons, bd_data, bd_chain, bd_guard, bd_phase, bd_text, bd_gc] at hd)
          (first | simp [puts, dsts, Act.put, hd] | simp [puts, dsts, Act.put])
          clear hd
          go_wp2_with fail
          exact ⟨rfl, rfl⟩
        · intro f w4 hG hold hd
          have hS4 := (BL.out.2).trans (chgDr hG)
          clear hG
          clear hold
          (try simp [depsO, dstAt, oAt, Ko.val, bindE, List.filter_cons, bd_data, bd_chain, bd_guard, bd_phase, bd_text, bd_gc] at hd)
          (first | simp [puts, dsts, Act.put, hd] | simp [puts, dsts, Act.put])
          clear hd
          go_wp2_with fail
          exact ⟨rfl, rfl⟩
        · intro f w4 hG hold hd
          have hS4 := (BL.out.2).trans (chgDr hG)
          clear hG
          clear hold
          (try simp [depsO, dstAt, oAt, Ko.val, bindE, List.filter_cons, bd_data, bd_chain, bd_guard, bd_phase, bd_text, bd_gc] at hd)
          (first | simp [puts, dsts, Act.put, hd] | simp [puts, dsts, Act.put])
          clear hd
          go_wp2_with fail
          exact ⟨rfl, rfl⟩
        · intro f w4 hG hold hd
          have hS4 := (BL.out.2).trans (chgDr hG)
          clear hG
          clear hold
          (try simp [depsO, dstAt, oAt, Ko.val, bindE, List.filter_cons, bd_data, bd_chain, bd_guard, bd_phase, bd_text, bd_gc] at hd)
          (first | simp [puts, dsts, Act.put, hd] | simp [puts, dsts, Act.put])
          clear hd
          go_wp2_with fail
          exact ⟨rfl, rfl⟩
      intro f w5 hG hI hd
      have hS5 := (BL.out.2).trans (chgDr hG)
      clear hG
      simp [knowsO, dstAt, Ko.val] at hd
      simp only [puts, dsts, Act.put, hd, List.filterMap_cons, List.filterMap_nil, List.setIfInBounds_toArray, List.set_cons_zero, List.set_cons_succ]
      clear hd
      have O5 := Lib.hid hI.2.1
      have BL5 := Lib.hid hI.2.2
      have hz5 := hS5.size
      clear hI hS5 O2 BL
      go_wp2_with (at_builtin; refine wp_pushI w5 w5.heap.size rfl rfl (.tmp 43) (.tmp 45) rfl ((N : Int) + 2) w.heap.size A1 k c1 s.1 O5.out L1.out rfl rfl (by omega) hz5 ?_; intro A6 c6 w6 O6 C6)
      have O7 : Hid (ownF w.heap.size (cints (sumTo m x y cy 0 (k + 1)).1) (.slice A6 (k + 1) c6) w6) := by rw [HST.out]; exact O6
      have B7 : Hid (Bld 28 lo hi (sumTo m x y cy 0 (k + 1)).2.2 g w w6) := by rw [HST.out]; exact Lib.hid (BL5.out.push C6.out hhi (Nat.le_refl _))
      have HQ : Hid ((sumTo m x y cy 0 (k + 1)).2.1 = (N : Int) + 4) := by rw [HST.out]; exact Lib.hid rfl
      clear O6 C6 O5 BL5
      go_roundw
      case rel => exact ⟨k + 1, c6, A6, by clear i1 i2; omega, by go_num, by rw [HQ.out], rfl, O7, B7⟩
      case measure => simp [intOf]; omega
    · have hjn : k = n := by omega
      subst hjn
      have i1 : ¬ (k : Int) < (k : Int) := by omega
      have i2 : (k : Int) < (l : Int) := by omega
      have HM : Hid (sumS m x y cy k = (s.1 ++ [(N : Int) + 1], (s.2.2.put 3 (x.getD k 0) (y.getD k 0)).put 3 N s.2.1)) := by
        unfold Hid sumS sumG
        rw [HSK.out, LN.out]
      obtain ⟨xk, hxk⟩ : ∃ q, x.getD k 0 = q := ⟨_, rfl⟩
      obtain ⟨yk, hyk⟩ : ∃ q, y.getD k 0 = q := ⟨_, rfl⟩
      rw [hxk, hyk] at HM
      have HXK := Lib.hid hxk
      have HYK := Lib.hid hyk
      clear hxk hyk hlt
      have FX : Hid (∀ wx, Chg (GBT 28 lo w) w wx → wx.cell? ⟨bx, ox + k, none⟩ = some (.int .i64 xk)) := Lib.hid (fun wx hh => by rw [← HXK.out]; exact (HX.out wx hh).val (by omega))
      have FY : Hid (∀ wx, Chg (GBT 28 lo w) w wx → wx.cell? ⟨by', oy + k, none⟩ = some (.int .i64 yk)) := Lib.hid (fun wx hh => by rw [← HYK.out]; exact (HY.out wx hh).val (by omega))
      go_wp2_with fail
      refine region_open [.rd (.pointer (some ⟨g, 0, none⟩)), .rd (.slice (some ⟨bx, ox, none⟩) l c), .rd (.int .i64 k), .rd (.pointer (some ⟨bx, ox + k, none⟩)), .rd (.int .i64 xk), .rd (.slice (some ⟨by', oy, none⟩) l d), .rd (.int .i64 k), .rd (.pointer (some ⟨by', oy + k, none⟩)), .rd (.int .i64 yk), .ch (some (.int .i64 N)), .rd (.int .i64 N)] (fun yy => GBT 28 lo w yy) [⟨[], fun _ w' => w' = wr.drew⟩,
         ⟨[56], fun l w' => l.getD 0 undef = .int .i64 N ∧ ownF w.heap.size (cints s.1) (.slice A1 k c1) w' ∧ Bld 28 lo hi (s.2.2.put 3 xk yk) g w w'⟩] (by kernel_rfl) (by kernel_rfl) (by kernel_rfl) 1 (by kernel_rfl) rfl rfl ?_ ?_
      · simp only [hopsOK, hopO, Ko.next, and_true]
        refine ⟨?_, ?_, ?_, ?_, ?_, ?_, ?_, ?_, ?_, ?_, ?_⟩
        · intro f w4 hG hold hd
          have hS4 := (BL.out.2).trans (chgDr hG)
          clear hG
          clear hold
          (try simp [depsO, dstAt, oAt, Ko.val, bindE, List.filter_cons, bd_data, bd_chain, bd_guard, bd_phase, bd_text, bd_gc] at hd)
          (first | simp [puts, dsts, Act.put, hd] | simp [puts, dsts, Act.put])
          clear hd
          go_wp2_with fail
          exact ⟨rfl, rfl⟩
        · intro f w4 hG hold hd
          have hS4 := (BL.out.2).trans (chgDr hG)
          clear hG
          clear hold
          (try simp [depsO, dstAt, oAt, Ko.val, bindE, List.filter_cons, bd_data, bd_chain, bd_guard, bd_phase, bd_text, bd_gc] at hd)
          (first | simp [puts, dsts, Act.put, hd] | simp [puts, dsts, Act.put])
          clear hd
          go_wp2_with fail
          exact ⟨rfl, rfl⟩
        · intro f w4 hG hold hd
          have hS4 := (BL.out.2).trans (chgDr hG)
          clear hG
          clear hold
          (try simp [depsO, dstAt, oAt, Ko.val, bindE, List.filter_cons, bd_data, bd_chain, bd_guard, bd_phase, bd_text, bd_gc] at hd)
          (first | simp [puts, dsts, Act.put, hd] | simp [puts, dsts, Act.put])
          clear hd
          go_wp2_with fail
          exact ⟨rfl, rfl⟩
        · intro f w4 hG hold hd
          have hS4 := (BL.out.2).trans (chgDr hG)
          clear hG
          clear hold
          (try simp [depsO, dstAt, oAt, Ko.val, bindE, List.filter_cons, bd_data, bd_chain, bd_guard, bd_phase, bd_text, bd_gc] at hd)
          (first | simp [puts, dsts, Act.put, hd] | simp [puts, dsts, Act.put])
          clear hd
          go_wp2_with fail
          exact ⟨rfl, rfl⟩
        · intro f w4 hG hold hd
          have hS4 := (BL.out.2).trans (chgDr hG)
          clear hG
          have k0 := (FX.out) _ hS4
          clear hold
          (try simp [depsO, dstAt, oAt, Ko.val, bindE, List.filter_cons, bd_data, bd_chain, bd_guard, bd_phase, bd_text, bd_gc] at hd)
          (first | simp [puts, dsts, Act.put, hd] | simp [puts, dsts, Act.put])
          clear hd
          go_wp2_with fail
          exact ⟨rfl, rfl⟩
        · intro f w4 hG hold hd
          have hS4 := (BL.out.2).trans (chgDr hG)
          clear hG
          clear hold
          (try simp [depsO, dstAt, oAt, Ko.val, bindE, List.filter_cons, bd_data, bd_chain, bd_guard, bd_phase, bd_text, bd_gc] at hd)
          (first | simp [puts, dsts, Act.put, hd] | simp [puts, dsts, Act.put])
          clear hd
          go_wp2_with fail
          exact ⟨rfl, rfl⟩
        · intro f w4 hG hold hd
          have hS4 := (BL.out.2).trans (chgDr hG)
          clear hG
          clear hold
          (try simp [depsO, dstAt, oAt, Ko.val, bindE, List.filter_cons, bd_data, bd_chain, bd_guard, bd_phase, bd_text, bd_gc] at hd)
          (first | simp [puts, dsts, Act.put, hd] | simp [puts, dsts, Act.put])
          clear hd
          go_wp2_with fail
          exact ⟨rfl, rfl⟩
        · intro f w4 hG hold hd
          have hS4 := (BL.out.2).trans (chgDr hG)
          clear hG
          clear hold
          (try simp [depsO, dstAt, oAt, Ko.val, bindE, List.filter_cons, bd_data, bd_chain, bd_guard, bd_phase, bd_text, bd_gc] at hd)
          (first | simp [puts, dsts, Act.put, hd] | simp [puts, dsts, Act.put])
          clear hd
          go_wp2_with fail
          exact ⟨rfl, rfl⟩
        · intro f w4 hG hold hd
          have hS4 := (BL.out.2).trans (chgDr hG)
          clear hG
          have k1 := (FY.out) _ hS4
          clear hold
          (try simp [depsO, dstAt, oAt, Ko.val, bindE, List.filter_cons, bd_data, bd_chain, bd_guard, bd_phase, bd_text, bd_gc] at hd)
          (first | simp [puts, dsts, Act.put, hd] | simp [puts, dsts, Act.put])
          clear hd
          go_wp2_with fail
          exact ⟨rfl, rfl⟩
        · intro f w4 hG hI hold hd
          have hS4 := (BL.out.2).trans (chgDr hG)
          clear hG
          clear hold
          have hI : w4 = wr.drew := hI
          subst hI
          (try simp [depsO, dstAt, oAt, Ko.val, bindE, List.filter_cons, bd_data, bd_chain, bd_guard, bd_phase, bd_text, bd_gc] at hd)
          (first | simp [puts, dsts, Act.put, hd] | simp [puts, dsts, Act.put])
          clear hd
          go_wp2_with fail
          have hgr : wr.grownBy wr.drew none := gbD (gbR _ none)
          refine (specgate_c s.2.2 g lo hi 3 xk yk wr.drew (BL.out.1.grow hgr) (by have := LN.out; omega) (by have := hgr.size; omega)).mono ?_
          rintro e w6 ⟨rfl, b6⟩
          rw [LN.out]
          have B6 := Lib.hid b6
          clear b6
          go_wp2_with fail
          exact ⟨_, rfl, by first | exact isVal.yes | exact isVal.no, ⟨rfl, GBT.ownF B6.out.2 hTCI (O2.out.grow hgr), (BL.out.grow hgr).trans B6.out⟩, (GBT.on hS4 hlo B6.out.2)⟩
        · intro f w4 hG hold hd
          have hS4 := (BL.out.2).trans (chgDr hG)
          clear hG
          clear hold
          (try simp [depsO, dstAt, oAt, Ko.val, bindE, List.filter_cons, bd_data, bd_chain, bd_guard, bd_phase, bd_text, bd_gc] at hd)
          (first | simp [puts, dsts, Act.put, hd] | simp [puts, dsts, Act.put])
          clear hd
          go_wp2_with fail
          exact ⟨rfl, rfl⟩
      intro f w5 hG hI hd
      have hS5 := (BL.out.2).trans (chgDr hG)
      clear hG
      simp [knowsO, dstAt, Ko.val] at hd
      simp only [puts, dsts, Act.put, hd, List.filterMap_cons, List.filterMap_nil, List.setIfInBounds_toArray, List.set_cons_zero, List.set_cons_succ]
      clear hd
      have O5 := Lib.hid hI.2.1
      have BL5 := Lib.hid hI.2.2
      have hz5 := hS5.size
      clear hI hS5 O2 BL
      go_wp2_with fail
      refine (specgate_c (s.2.2.put 3 xk yk) g lo hi 3 N s.2.1 w5 BL5.out.1 (by rw [put_len, LN.out]; omega) (by omega)).mono ?_
      rintro e w6 ⟨rfl, b6⟩
      have hpl : (((s.2.2.put 3 xk yk).gt.length : Nat) : Int) = (N : Int) + 1 := by rw [put_len, LN.out]; rfl
      rw [hpl]
      have BL6 := Lib.hid (BL5.out.trans b6)
      have O6 := Lib.hid (GBT.ownF b6.2 hTCI O5.out)
      have hz6 := b6.2.size
      clear b6 hpl O5 BL5
      go_wp2_with (at_builtin; refine wp_pushI w6 w6.heap.size rfl rfl (.tmp 57) (.tmp 62) rfl ((N : Int) + 1) w.heap.size A1 k c1 s.1 O6.out L1.out rfl rfl (by omega) (by omega) ?_; intro A7 c7 w7 O7 C7)
      refine bodyPost_ret (by simp [results, Try.results66]; rfl) rfl ?_
      rw [HM.out]
      exact ⟨_, rfl, O7.out, BL6.out.push C7.out hhi (Nat.le_refl _)⟩
end Go.Proofs.Ythdfkiaoahpjpaa
