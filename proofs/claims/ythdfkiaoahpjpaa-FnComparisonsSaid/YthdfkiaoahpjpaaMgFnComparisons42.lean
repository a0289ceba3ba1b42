/-
  The program's circuits for words: the choice.
-/
import Derived.Test.YthdfkiaoahpjpaaMgFnComparisons41
namespace Go.Proofs.Ythdfkiaoahpjpaa
open Go.RowKit
set_option linter.unusedVariables false
set_option linter.unusedSimpArgs false
set_option maxHeartbeats 4000000 in
set_option maxRecDepth 100000 in
theorem implWordMux_c (m : CM) (A B : Option Addr) (c d : Nat) (sx : Int) (x y : List Int) (v : Value) (w0 : World) (h : AggR w0 (ccircuit m) v) (hx : Ints w0 A 4 x) (hc : 4 ≤ c) (hc2 : c ≤ maxLen) (hy : Ints w0 B 4 y) (hd : 4 ≤ d) (hd2 : d ≤ maxLen) (ask : WAsk m) (wx : wordB m x) (wy : wordB m y) (hs : inB sx 0 (m.gt.length - 1) = true) :
    Calls Try.prog 14 #[v, .int .i64 sx, .slice A 4 c, .slice B 4 d] w0 fun e w' => ∃ V U, e = .returned (.tuple #[V, U]) ∧ aggF w0.heap.size (ccircuit (muxTo m sx x y 4).2) V w' ∧ ownF w0.heap.size (cints (muxTo m sx x y 4).1) U w' ∧ w0.grownBy w' none := by
  have HIN := Lib.hid hs
  clear hs
  obtain ⟨u0, u1, rfl, h1, h2⟩ := ccircuit_open h
  obtain ⟨Ag, cg, rfl, _, _, _⟩ := plst_rd (s := 3) (fun _ => rfl) (by omega) h1
  obtain ⟨w1, hw1⟩ : ∃ q : World, (w0.alloc (.cells #[.slice Ag m.gt.length cg, u1] 28)).alloc (.cells #[.slice none 0 0, .slice none 0 0] 28) = q := ⟨_, rfl⟩
  have G1 : Hid (w0.grownBy w1 none) := by rw [← hw1]; exact gbA (gbA (gbR _ _) _) _
  have z1 : w0.heap.size + 2 ≤ w1.heap.size := by rw [← hw1]; simp
  have D1 : Hid (Blk w1 w0.heap.size 28 #[.slice Ag m.gt.length cg, u1]) := by rw [← hw1]; exact (Blk.new w0 _ _).grow (gbA (gbR _ _) _)
  have DR : Hid (Blk w1 (w0.heap.size + 1) 28 #[.slice none 0 0, .slice none 0 0]) := by rw [← hw1]; exact Blk.new' _ _ _ _ (by simp)
  have HV := Lib.hid h
  have HX := Lib.hid hx
  have HY := Lib.hid hy
  have ASK := Lib.hid ask
  have WX := Lib.hid wx
  have WY := Lib.hid wy
  have HC := Lib.hid hc2
  have HD := Lib.hid hd2
  clear h h1 h2 hx hy ask wx wy hc2 hd2
  go_enter Try.func14, Try.ntmps14
  have k0 := D1.out.cell 0
  have k1 := D1.out.cell 1
  simp at k0 k1
  go_wp2_with fail
  clear hw1 k0 k1
  refine (implcopyCircuit_c m _ w1 (HV.out.grow G1.out) (by have := ASK.out.few; omega) (by have := ASK.out.outs; omega)).mono ?_
  rintro e w2 ⟨v2, rfl, o2, g2⟩
  obtain ⟨A2, n2, c2, B2, m2, d2, rfl⟩ := ccircuit_oform o2.choose_spec.1
  have z2 := g2.size
  obtain ⟨w3, hw3⟩ : ∃ q : World, w2.alloc (.cells #[.slice A2 n2 c2, .slice B2 m2 d2] 77) = q := ⟨_, rfl⟩
  have g3 : w2.grownBy w3 none := by rw [← hw3]; exact gbA (gbR _ _) _
  have B3 : Hid (BS 77 w0.heap.size (w2.heap.size + 1) m w2.heap.size w3) := by rw [← hw3]; exact Lib.hid (BS.made (o2.lo (by omega)) (by omega))
  have G3 := Lib.hid (gbT G1.out (gbT g2 g3))
  have D3 := Lib.hid (D1.out.grow (gbT g2 g3))
  have R3 := Lib.hid (DR.out.grow (gbT g2 g3))
  have z3 : w3.heap.size = w2.heap.size + 1 := by rw [← hw3]; simp
  have Z3 := Lib.hid z3
  have k0 := D3.out.cell 0
  have k1 := D3.out.cell 1
  simp at k0 k1
  clear G1 D1 DR o2 g2 g3
  clear z3
  go_wp2_with fail
  have gA := gbA (gbR w3 none) (.cells #[.slice A 4 c, .slice B 4 d] 24)
  refine (implisWordOf_yes m _ [x, y] _ 2 2 _ (HV.out.grow (gbT G3.out gA)) (mat_two (Blk.new w3 _ _) (by simp) ((HX.out.grow G3.out).grow gA) hc HC.out ((HY.out.grow G3.out).grow gA) hd HD.out) ASK.out.ok ASK.out.few (fun r hr => by
    simp at hr
    rcases hr with rfl | rfl
    · exact WX.out
    · exact WY.out) (by omega)).mono ?_
  rintro e w5 ⟨rfl, g5⟩
  have g35 := gbT gA g5
  have B5 := Lib.hid (B3.out.grow g35)
  have G5 := Lib.hid (gbT G3.out g35)
  have R5 := Lib.hid (R3.out.grow g35)
  have D5 := Lib.hid (D3.out.grow g35)
  have z5 : w2.heap.size + 1 ≤ w5.heap.size := by have := g35.size; have := Z3.out; omega
  clear gA g5 g35 B3 G3 R3 D3 hw3 k0 k1 Z3
  have few : m.gt.length ≤ 5900 := ASK.out.few
  have k0 := D5.out.cell 0
  have k1 := D5.out.cell 1
  simp at k0 k1
  go_wp2_with fail
  clear k0 k1
  refine (impl.within_q sx 0 ((m.gt.length : Int) - 1) _).mono ?_
  rintro e w5 ⟨rfl, rfl⟩
  rw [HIN.out]
  obtain ⟨w6, hw6⟩ : ∃ q : World, w5.alloc (.cells #[] 3) = q := ⟨_, rfl⟩
  have G6 : Hid (w5.grownBy w6 none) := by rw [← hw6]; exact Lib.hid (gbA (gbR _ _) _)
  have R1 : Hid (ownF w5.heap.size (cints (muxTo m sx x y 0).1) (.slice (some ⟨w5.heap.size, 0, none⟩) 0 0) w6) := by
    rw [← hw6]
    exact Lib.hid (ownF.ints (World.ownsRow_made w5 #[] 0 (Nat.le_refl _) (by simp) rfl))
  have BL : Hid (Bld 77 w0.heap.size (w2.heap.size + 1) (muxTo m sx x y 0).2 w2.heap.size w5 w6) := Lib.hid ⟨B5.out.grow G6.out, GBT.grow G6.out⟩
  have HX6 := Lib.hid (SRV.low (T := 77) HX.out G5.out)
  have HY6 := Lib.hid (SRV.low (T := 77) HY.out G5.out)
  obtain ⟨bx, ox, rfl, _, _⟩ := HX6.out.now.at_ (by omega)
  obtain ⟨bz, oz, rfl, _, _⟩ := HY6.out.now.at_ (by omega)
  clear G6 B5
  go_wp2_with fail
  try rw [hw6]
  clear hw6
  go_loopw [11, 40] (fun t i wr => ∃ k c1 : Nat, ∃ A1 : Option Addr, k ≤ 4 ∧ i = .int .i64 k ∧ t = .slice A1 k c1 ∧ Hid (ownF w5.heap.size (cints (muxTo m sx x y k).1) (.slice A1 k c1) wr) ∧ Hid (Bld 77 w0.heap.size (w2.heap.size + 1) (muxTo m sx x y k).2 w2.heap.size w5 wr)) (fun _ i _ => 4 - (intOf i).toNat)
  case atStart => exact ⟨0, 0, _, Nat.zero_le _, rfl, rfl, R1, BL⟩
  case round =>
    clear R1 BL
    obtain ⟨k, c1, A1, hk, rfl, rfl, RO, BL⟩ := hrel
    obtain ⟨l1, l2⟩ := muxTo_len m sx x y k
    have hst : muxTo m sx x y (k + 1) = ((muxTo m sx x y k).1 ++ [((muxTo m sx x y k).2.gt.length : Int) + 2], (((muxTo m sx x y k).2.put 3 (x.getD k 0) (y.getD k 0)).put 4 sx (muxTo m sx x y k).2.gt.length).put 3 (((muxTo m sx x y k).2.gt.length : Int) + 1) (y.getD k 0)) := rfl
    obtain ⟨s, hs⟩ : ∃ s, muxTo m sx x y k = s := ⟨_, rfl⟩
    rw [hs] at l1 l2 RO BL hst
    obtain ⟨N, hN⟩ : ∃ N, s.2.gt.length = N := ⟨_, rfl⟩
    rw [hN] at l2 hst
    have lN : N ≤ 6000 := by omega
    have LN := Lib.hid hN
    have HS := Lib.hid hs
    have L1 := Lib.hid l1
    have hsz := BL.out.2.size
    by_cases hlt : k < 4
    · have i1 : (k : Int) < 4 := by omega
      obtain ⟨xk, hxk⟩ : ∃ q, x.getD k 0 = q := ⟨_, rfl⟩
      obtain ⟨yk, hyk⟩ : ∃ q, y.getD k 0 = q := ⟨_, rfl⟩
      rw [hxk, hyk] at hst
      have HST := Lib.hid hst
      have HXK := Lib.hid hxk
      have HYK := Lib.hid hyk
      clear hxk hyk hst l2 hN hs l1
      have FX : Hid (∀ wx, Chg (GBT 77 w0.heap.size w5) w5 wx → wx.cell? ⟨bx, ox + k, none⟩ = some (.int .i64 xk)) := Lib.hid (fun wx hh => by rw [← HXK.out]; exact (HX6.out wx hh).val (by omega))
      have FY : Hid (∀ wx, Chg (GBT 77 w0.heap.size w5) w5 wx → wx.cell? ⟨bz, oz + k, none⟩ = some (.int .i64 yk)) := Lib.hid (fun wx hh => by rw [← HYK.out]; exact (HY6.out wx hh).val (by omega))
      go_wp2_with fail
      refine region_open [.rd (.pointer (some ⟨w2.heap.size, 0, none⟩)), .rd (.slice (some ⟨bx, ox, none⟩) 4 c), .rd (.int .i64 k), .rd (.pointer (some ⟨bx, ox + k, none⟩)), .rd (.int .i64 xk), .rd (.slice (some ⟨bz, oz, none⟩) 4 d), .rd (.int .i64 k), .rd (.pointer (some ⟨bz, oz + k, none⟩)), .rd (.int .i64 yk), .ch (some (.int .i64 N)), .rd (.int .i64 N)] (fun yy => GBT 77 w0.heap.size w5 yy) [⟨[], fun _ w' => w' = wr.drew⟩,
         ⟨[52], fun l w' => ownF w5.heap.size (cints s.1) (.slice A1 k c1) w' ∧ Bld 77 w0.heap.size (w2.heap.size + 1) (s.2.put 3 xk yk) w2.heap.size w5 w'⟩] (by kernel_rfl) (by kernel_rfl) (by kernel_rfl) 1 (by kernel_rfl) rfl rfl ?_ ?_
      · simp only [hopsOK, hopO, Ko.next, and_true]
        refine ⟨?_, ?_, ?_, ?_, ?_, ?_, ?_, ?_, ?_, ?_, ?_⟩
        · intro f w4 hG hold hd
          have hS4 := (BL.out.2).trans (chgDr hG)
          clear hG
          clear hold
          (try simp [depsO, dstAt, oAt, Ko.val, bindE, List.filter_cons, bd_data, bd_chain, bd_guard, bd_phase, bd_text, bd_gc] at hd)
          (first | simp [puts, dsts, Act.put, hd] | simp [puts, dsts, Act.put])
          clear hd
          go_wp2_with fail
          exact ⟨rfl, rfl⟩
        · intro f w4 hG hold hd
          have hS4 := (BL.out.2).trans (chgDr hG)
          clear hG
          clear hold
          (try simp [depsO, dstAt, oAt, Ko.val, bindE, List.filter_cons, bd_data, bd_chain, bd_guard, bd_phase, bd_text, bd_gc] at hd)
          (first | simp [puts, dsts, Act.put, hd] | simp [puts, dsts, Act.put])
          clear hd
          go_wp2_with fail
          exact ⟨rfl, rfl⟩
        · intro f w4 hG hold hd
          have hS4 := (BL.out.2).trans (chgDr hG)
          clear hG
          clear hold
          (try simp [depsO, dstAt, oAt, Ko.val, bindE, List.filter_cons, bd_data, bd_chain, bd_guard, bd_phase, bd_text, bd_gc] at hd)
          (first | simp [puts, dsts, Act.put, hd] | simp [puts, dsts, Act.put])
          clear hd
          go_wp2_with fail
          exact ⟨rfl, rfl⟩
        · intro f w4 hG hold hd
          have hS4 := (BL.out.2).trans (chgDr hG)
          clear hG
          clear hold
          (try simp [depsO, dstAt, oAt, Ko.val, bindE, List.filter_cons, bd_data, bd_chain, bd_guard, bd_phase, bd_text, bd_gc] at hd)
          (first | simp [puts, dsts, Act.put, hd] | simp [puts, dsts, Act.put])
          clear hd
          go_wp2_with fail
          exact ⟨rfl, rfl⟩
        · intro f w4 hG hold hd
          have hS4 := (BL.out.2).trans (chgDr hG)
          clear hG
          have k0 := (FX.out) _ hS4
          clear hold
          (try simp [depsO, dstAt, oAt, Ko.val, bindE, List.filter_cons, bd_data, bd_chain, bd_guard, bd_phase, bd_text, bd_gc] at hd)
          (first | simp [puts, dsts, Act.put, hd] | simp [puts, dsts, Act.put])
          clear hd
          go_wp2_with fail
          exact ⟨rfl, rfl⟩
        · intro f w4 hG hold hd
          have hS4 := (BL.out.2).trans (chgDr hG)
          clear hG
          clear hold
          (try simp [depsO, dstAt, oAt, Ko.val, bindE, List.filter_cons, bd_data, bd_chain, bd_guard, bd_phase, bd_text, bd_gc] at hd)
          (first | simp [puts, dsts, Act.put, hd] | simp [puts, dsts, Act.put])
          clear hd
          go_wp2_with fail
          exact ⟨rfl, rfl⟩
        · intro f w4 hG hold hd
          have hS4 := (BL.out.2).trans (chgDr hG)
          clear hG
          clear hold
          (try simp [depsO, dstAt, oAt, Ko.val, bindE, List.filter_cons, bd_data, bd_chain, bd_guard, bd_phase, bd_text, bd_gc] at hd)
          (first | simp [puts, dsts, Act.put, hd] | simp [puts, dsts, Act.put])
          clear hd
          go_wp2_with fail
          exact ⟨rfl, rfl⟩
        · intro f w4 hG hold hd
          have hS4 := (BL.out.2).trans (chgDr hG)
          clear hG
          clear hold
          (try simp [depsO, dstAt, oAt, Ko.val, bindE, List.filter_cons, bd_data, bd_chain, bd_guard, bd_phase, bd_text, bd_gc] at hd)
          (first | simp [puts, dsts, Act.put, hd] | simp [puts, dsts, Act.put])
          clear hd
          go_wp2_with fail
          exact ⟨rfl, rfl⟩
        · intro f w4 hG hold hd
          have hS4 := (BL.out.2).trans (chgDr hG)
          clear hG
          have k1 := (FY.out) _ hS4
          clear hold
          (try simp [depsO, dstAt, oAt, Ko.val, bindE, List.filter_cons, bd_data, bd_chain, bd_guard, bd_phase, bd_text, bd_gc] at hd)
          (first | simp [puts, dsts, Act.put, hd] | simp [puts, dsts, Act.put])
          clear hd
          go_wp2_with fail
          exact ⟨rfl, rfl⟩
        · intro f w4 hG hI hold hd
          have hS4 := (BL.out.2).trans (chgDr hG)
          clear hG
          clear hold
          have hI : w4 = wr.drew := hI
          subst hI
          (try simp [depsO, dstAt, oAt, Ko.val, bindE, List.filter_cons, bd_data, bd_chain, bd_guard, bd_phase, bd_text, bd_gc] at hd)
          (first | simp [puts, dsts, Act.put, hd] | simp [puts, dsts, Act.put])
          clear hd
          go_wp2_with fail
          have hgr : wr.grownBy wr.drew none := gbD (gbR _ none)
          refine (implgate_c s.2 w2.heap.size w0.heap.size (w2.heap.size + 1) 3 xk yk wr.drew (BL.out.1.grow hgr) (by have := LN.out; omega) (by have := hgr.size; omega)).mono ?_
          rintro e w6 ⟨rfl, b6⟩
          rw [LN.out]
          have B6 := Lib.hid b6
          clear b6
          go_wp2_with fail
          exact ⟨_, rfl, by first | exact isVal.yes | exact isVal.no, ⟨GBT.ownF B6.out.2 hT9 (RO.out.grow hgr), (BL.out.grow hgr).trans B6.out⟩, (GBT.on hS4 (by omega) B6.out.2)⟩
        · intro f w4 hG hold hd
          have hS4 := (BL.out.2).trans (chgDr hG)
          clear hG
          clear hold
          (try simp [depsO, dstAt, oAt, Ko.val, bindE, List.filter_cons, bd_data, bd_chain, bd_guard, bd_phase, bd_text, bd_gc] at hd)
          (first | simp [puts, dsts, Act.put, hd] | simp [puts, dsts, Act.put])
          clear hd
          go_wp2_with fail
          exact ⟨rfl, rfl⟩
      intro f w8 hG hI hd
      have hS5 := (BL.out.2).trans (chgDr hG)
      clear hG
      simp [knowsO, dstAt, Ko.val] at hd
      simp only [puts, dsts, Act.put, hd, List.filterMap_cons, List.filterMap_nil, List.setIfInBounds_toArray, List.set_cons_zero, List.set_cons_succ]
      clear hd
      have RO8 := Lib.hid hI.1
      have BL8 := Lib.hid hI.2
      have hs8 := hS5.size
      clear hI hS5 RO BL
      have LN1 : Hid ((s.2.put 3 xk yk).gt.length = N + 1) := by unfold Hid; rw [put_len, LN.out]
      have LN2 : Hid (((s.2.put 3 xk yk).put 4 sx N).gt.length = N + 2) := by unfold Hid; rw [put_len, LN1.out]
      go_wp2_with fail
      refine region_open [.rd (.slice A1 k c1), .rd (.pointer (some ⟨w2.heap.size, 0, none⟩)), .rd (.pointer (some ⟨w2.heap.size, 0, none⟩)), .rd (.int .i64 sx), .rd (.int .i64 N), .ch (some (.int .i64 ((N : Int) + 1))), .rd (.slice (some ⟨bz, oz, none⟩) 4 d), .rd (.int .i64 k), .rd (.pointer (some ⟨bz, oz + k, none⟩)), .rd (.int .i64 yk), .ch (some (.int .i64 ((N : Int) + 2))), .ch none, .ch none, .ch none] (fun yy => GBT 77 w0.heap.size w5 yy) [⟨[], fun _ w' => w' = w8.drew⟩,
         ⟨[58], fun l w' => ownF w5.heap.size (cints s.1) (.slice A1 k c1) w' ∧ Bld 77 w0.heap.size (w2.heap.size + 1) ((s.2.put 3 xk yk).put 4 sx N) w2.heap.size w5 w'⟩,
         ⟨[63], fun l w' => ownF w5.heap.size (cints s.1) (.slice A1 k c1) w' ∧ Bld 77 w0.heap.size (w2.heap.size + 1) (((s.2.put 3 xk yk).put 4 sx N).put 3 ((N : Int) + 1) yk) w2.heap.size w5 w'⟩,
         ⟨[64], fun l w' => ∃ wq, w' = wq.alloc (.cells #[.int .i64 ((N : Int) + 2)] 3) ∧ l.getD 0 undef = .slice (some ⟨wq.heap.size, 0, none⟩) 1 1 ∧ ownF w5.heap.size (cints (s.1)) (.slice A1 k c1) wq ∧ Bld 77 w0.heap.size (w2.heap.size + 1) (((s.2.put 3 xk yk).put 4 sx N).put 3 ((N : Int) + 1) yk) w2.heap.size w5 wq⟩,
         ⟨[65], fun l w' => ∃ A8 c8, l.getD 0 undef = .slice A8 (k + 1) c8 ∧ ownF w5.heap.size (cints (s.1 ++ [(N : Int) + 2])) (.slice A8 (k + 1) c8) w' ∧ Bld 77 w0.heap.size (w2.heap.size + 1) (((s.2.put 3 xk yk).put 4 sx N).put 3 ((N : Int) + 1) yk) w2.heap.size w5 w'⟩,
         ⟨[11], fun l w' => ∃ A8 c8, l.getD 0 undef = .slice A8 (k + 1) c8 ∧ ownF w5.heap.size (cints (s.1 ++ [(N : Int) + 2])) (.slice A8 (k + 1) c8) w' ∧ Bld 77 w0.heap.size (w2.heap.size + 1) (((s.2.put 3 xk yk).put 4 sx N).put 3 ((N : Int) + 1) yk) w2.heap.size w5 w'⟩] (by kernel_rfl) (by kernel_rfl) (by kernel_rfl) 5 (by kernel_rfl) rfl rfl ?_ ?_
      · simp only [hopsOK, hopO, Ko.next, and_true]
        refine ⟨?_, ?_, ?_, ?_, ?_, ?_, ?_, ?_, ?_, ?_, ?_, ?_, ?_, ?_⟩
        · intro f w4 hG hold hd
          have hS4 := (BL8.out.2).trans (chgDr hG)
          clear hG
          have e11 := hold 11 (by kernel_rfl) (by simp [dsts])
          simp at e11
          clear hold
          (try simp [depsO, dstAt, oAt, Ko.val, bindE, List.filter_cons, bd_data, bd_chain, bd_guard, bd_phase, bd_text, bd_gc] at hd)
          (first | simp [puts, dsts, Act.put, hd, e11] | simp [puts, dsts, Act.put, e11])
          clear hd
          clear e11
          go_wp2_with fail
          exact ⟨rfl, rfl⟩
        · intro f w4 hG hold hd
          have hS4 := (BL8.out.2).trans (chgDr hG)
          clear hG
          clear hold
          (try simp [depsO, dstAt, oAt, Ko.val, bindE, List.filter_cons, bd_data, bd_chain, bd_guard, bd_phase, bd_text, bd_gc] at hd)
          (first | simp [puts, dsts, Act.put, hd] | simp [puts, dsts, Act.put])
          clear hd
          go_wp2_with fail
          exact ⟨rfl, rfl⟩
        · intro f w4 hG hold hd
          have hS4 := (BL8.out.2).trans (chgDr hG)
          clear hG
          clear hold
          (try simp [depsO, dstAt, oAt, Ko.val, bindE, List.filter_cons, bd_data, bd_chain, bd_guard, bd_phase, bd_text, bd_gc] at hd)
          (first | simp [puts, dsts, Act.put, hd] | simp [puts, dsts, Act.put])
          clear hd
          go_wp2_with fail
          exact ⟨rfl, rfl⟩
        · intro f w4 hG hold hd
          have hS4 := (BL8.out.2).trans (chgDr hG)
          clear hG
          clear hold
          (try simp [depsO, dstAt, oAt, Ko.val, bindE, List.filter_cons, bd_data, bd_chain, bd_guard, bd_phase, bd_text, bd_gc] at hd)
          (first | simp [puts, dsts, Act.put, hd] | simp [puts, dsts, Act.put])
          clear hd
          go_wp2_with fail
          exact ⟨rfl, rfl⟩
        · intro f w4 hG hold hd
          have hS4 := (BL8.out.2).trans (chgDr hG)
          clear hG
          clear hold
          (try simp [depsO, dstAt, oAt, Ko.val, bindE, List.filter_cons, bd_data, bd_chain, bd_guard, bd_phase, bd_text, bd_gc] at hd)
          (first | simp [puts, dsts, Act.put, hd] | simp [puts, dsts, Act.put])
          clear hd
          go_wp2_with fail
          exact ⟨rfl, rfl⟩
        · intro f w4 hG hI hold hd
          have hS4 := (BL8.out.2).trans (chgDr hG)
          clear hG
          clear hold
          have hI : w4 = w8.drew := hI
          subst hI
          (try simp [depsO, dstAt, oAt, Ko.val, bindE, List.filter_cons, bd_data, bd_chain, bd_guard, bd_phase, bd_text, bd_gc] at hd)
          (first | simp [puts, dsts, Act.put, hd] | simp [puts, dsts, Act.put])
          clear hd
          go_wp2_with fail
          have hgr : w8.grownBy w8.drew none := gbD (gbR _ none)
          refine (implgate_c (s.2.put 3 xk yk) w2.heap.size w0.heap.size (w2.heap.size + 1) 4 sx N w8.drew (BL8.out.1.grow hgr) (by have := LN1.out; omega) (by have := hgr.size; omega)).mono ?_
          rintro e w6 ⟨rfl, b6⟩
          rw [show (((s.2.put 3 xk yk).gt.length : Nat) : Int) = (N : Int) + 1 by rw [LN1.out]; rfl]
          have B6 := Lib.hid b6
          clear b6
          go_wp2_with fail
          exact ⟨_, rfl, by first | exact isVal.yes | exact isVal.no, ⟨GBT.ownF B6.out.2 hT9 (RO8.out.grow hgr), (BL8.out.grow hgr).trans B6.out⟩, (GBT.on hS4 (by omega) B6.out.2)⟩
        · intro f w4 hG hold hd
          have hS4 := (BL8.out.2).trans (chgDr hG)
          clear hG
          clear hold
          (try simp [depsO, dstAt, oAt, Ko.val, bindE, List.filter_cons, bd_data, bd_chain, bd_guard, bd_phase, bd_text, bd_gc] at hd)
          (first | simp [puts, dsts, Act.put, hd] | simp [puts, dsts, Act.put])
          clear hd
          go_wp2_with fail
          exact ⟨rfl, rfl⟩
        · intro f w4 hG hold hd
          have hS4 := (BL8.out.2).trans (chgDr hG)
          clear hG
          clear hold
          (try simp [depsO, dstAt, oAt, Ko.val, bindE, List.filter_cons, bd_data, bd_chain, bd_guard, bd_phase, bd_text, bd_gc] at hd)
          (first | simp [puts, dsts, Act.put, hd] | simp [puts, dsts, Act.put])
          clear hd
          go_wp2_with fail
          exact ⟨rfl, rfl⟩
        · intro f w4 hG hold hd
          have hS4 := (BL8.out.2).trans (chgDr hG)
          clear hG
          clear hold
          (try simp [depsO, dstAt, oAt, Ko.val, bindE, List.filter_cons, bd_data, bd_chain, bd_guard, bd_phase, bd_text, bd_gc] at hd)
          (first | simp [puts, dsts, Act.put, hd] | simp [puts, dsts, Act.put])
          clear hd
          go_wp2_with fail
          exact ⟨rfl, rfl⟩
        · intro f w4 hG hold hd
          have hS4 := (BL8.out.2).trans (chgDr hG)
          clear hG
          have k0 := (FY.out) _ hS4
          clear hold
          (try simp [depsO, dstAt, oAt, Ko.val, bindE, List.filter_cons, bd_data, bd_chain, bd_guard, bd_phase, bd_text, bd_gc] at hd)
          (first | simp [puts, dsts, Act.put, hd] | simp [puts, dsts, Act.put])
          clear hd
          go_wp2_with fail
          exact ⟨rfl, rfl⟩
        · intro f w4 hG hI hold hd
          have hS4 := (BL8.out.2).trans (chgDr hG)
          clear hG
          clear hold
          have O4 := Lib.hid hI.1
          have B4 := Lib.hid hI.2
          have hz4 := hS4.size
          clear hI
          (try simp [depsO, dstAt, oAt, Ko.val, bindE, List.filter_cons, bd_data, bd_chain, bd_guard, bd_phase, bd_text, bd_gc] at hd)
          (first | simp [puts, dsts, Act.put, hd] | simp [puts, dsts, Act.put])
          clear hd
          go_wp2_with fail
          refine (implgate_c ((s.2.put 3 xk yk).put 4 sx N) w2.heap.size w0.heap.size (w2.heap.size + 1) 3 ((N : Int) + 1) yk w4 B4.out.1 (by have := LN2.out; omega) (by omega)).mono ?_
          rintro e w6 ⟨rfl, b6⟩
          rw [show ((((s.2.put 3 xk yk).put 4 sx N).gt.length : Nat) : Int) = (N : Int) + 2 by rw [LN2.out]; rfl]
          have B6 := Lib.hid b6
          clear b6
          go_wp2_with fail
          exact ⟨_, rfl, by first | exact isVal.yes | exact isVal.no, ⟨GBT.ownF B6.out.2 hT9 O4.out, B4.out.trans B6.out⟩, (GBT.on hS4 (by omega) B6.out.2)⟩
        · intro f w4 hG hI hold hd
          have hS4 := (BL8.out.2).trans (chgDr hG)
          clear hG
          clear hold
          have O4 := Lib.hid hI.1
          have B4 := Lib.hid hI.2
          clear hI
          (try simp [depsO, dstAt, oAt, Ko.val, bindE, List.filter_cons, bd_data, bd_chain, bd_guard, bd_phase, bd_text, bd_gc] at hd)
          (first | simp [puts, dsts, Act.put, hd] | simp [puts, dsts, Act.put])
          clear hd
          go_wp2_with fail
          exact ⟨_, rfl, by first | exact isVal.yes | exact isVal.no, ⟨w4, rfl, rfl, O4.out, B4.out⟩, (Chg.of (gbA (gbR w4 none) _) (by simp))⟩
        · intro f w4 hG hI hold hd
          have hS4 := (BL8.out.2).trans (chgDr hG)
          clear hG
          clear hold
          obtain ⟨wq, rfl, eB, oq, bq⟩ := hI
          have eB : f 64 = .slice (some ⟨wq.heap.size, 0, none⟩) 1 1 := eB
          have OQ := Lib.hid oq
          have BQ := Lib.hid bq
          have zq := bq.2.size
          clear oq bq
          (try simp [depsO, dstAt, oAt, Ko.val, bindE, List.filter_cons, bd_data, bd_chain, bd_guard, bd_phase, bd_text, bd_gc] at hd)
          (first | simp [puts, dsts, Act.put, hd, eB] | simp [puts, dsts, Act.put, eB])
          clear hd eB
          go_wp2_with (at_builtin; refine wp_pushI2 wq wq.heap.size rfl rfl (.tmp 53) (.tmp 64) rfl ((N : Int) + 2) w5.heap.size A1 k c1 (s.1) OQ.out L1.out rfl rfl (by omega) zq ?_; intro A8 c8 w8 O8 C8 C9)
          exact ⟨_, rfl, by first | exact isVal.yes | exact isVal.no, ⟨A8, c8, rfl, O8.out, BQ.out.push C8.out (by omega) (Nat.le_refl _)⟩, (PSH.gbt' C9.out (by omega) (Nat.le_refl _))⟩
        · intro f w4 hG hI hold hd
          have hS4 := (BL8.out.2).trans (chgDr hG)
          clear hG
          clear hold
          obtain ⟨A8, c8, eB, oq, bq⟩ := hI
          have eB : f 65 = .slice A8 (k + 1) c8 := eB
          have OQ := Lib.hid oq
          have BQ := Lib.hid bq
          clear oq bq
          (try simp [depsO, dstAt, oAt, Ko.val, bindE, List.filter_cons, bd_data, bd_chain, bd_guard, bd_phase, bd_text, bd_gc] at hd)
          (first | simp [puts, dsts, Act.put, hd, eB] | simp [puts, dsts, Act.put, eB])
          clear hd eB
          go_wp2_with fail
          exact ⟨_, rfl, by first | exact isVal.yes | exact isVal.no, ⟨A8, c8, rfl, OQ.out, BQ.out⟩, (Chg.refl _ _)⟩
      intro f w9 hG hI hd
      have hS5 := (BL8.out.2).trans (chgDr hG)
      clear hG
      simp [knowsO, dstAt, Ko.val] at hd
      simp only [puts, dsts, Act.put, hd, List.filterMap_cons, List.filterMap_nil, List.setIfInBounds_toArray, List.set_cons_zero, List.set_cons_succ]
      clear hd
      obtain ⟨A8, c8, e9, o8, b8⟩ := hI
      have e9 : f 11 = .slice A8 (k + 1) c8 := e9
      rw [e9]
      have O9 : Hid (ownF w5.heap.size (cints (muxTo m sx x y (k + 1)).1) (.slice A8 (k + 1) c8) w9) := by rw [HST.out]; exact Lib.hid o8
      have B9 : Hid (Bld 77 w0.heap.size (w2.heap.size + 1) (muxTo m sx x y (k + 1)).2 w2.heap.size w5 w9) := by rw [HST.out]; exact Lib.hid b8
      clear e9 o8 b8 hS5 BL8 RO8
      go_wp2_with fail
      go_roundw
      case rel => exact ⟨k + 1, c8, A8, by omega, by go_num, rfl, O9, B9⟩
      case measure => simp [intOf]; omega
    · have hk4 : k = 4 := by omega
      subst hk4
      clear l2 hN hs hst l1
      have R6 := R5.out.gbt BL.out.2 (by decide) (by decide)
      obtain ⟨A7, n7, c7, B7, m7, d7, hBg, hBr, hV, hG, hO⟩ := BS.fin BL.out.1 (GBT.base G5.out BL.out.2) R6 (by omega)
      have hz9 := BL.out.2.size
      simp only [setCells, Nat.zero_add, Nat.reduceAdd] at hBr hV hG
      have k0 := hBg.cell 0
      have k1 := hBg.cell 1
      have r0 := R6.cell 0
      have r1 := R6.cell 1
      have f0 := R6.frozen 0
      have f1 := R6.frozen 1
      simp at k0 k1 r0 r1
      have HO7 := Lib.hid (by have := hO _ _ _ RO.out; simp only [setCells, Nat.zero_add, Nat.reduceAdd] at this; exact this.lo (show w0.heap.size ≤ w5.heap.size by omega))
      have HBR := Lib.hid hBr
      have HV7 := Lib.hid hV
      have HG7 := Lib.hid hG
      clear hBg hBr hV hG hO R6
      go_wp2_with fail
      refine ret_ct Try.results14 (by rfl) stCircuit HBR.out rfl (by rfl) ?_
      rw [HS.out]
      exact ⟨_, _, rfl, HV7.out, HO7.out, HG7.out⟩
end Go.Proofs.Ythdfkiaoahpjpaa
