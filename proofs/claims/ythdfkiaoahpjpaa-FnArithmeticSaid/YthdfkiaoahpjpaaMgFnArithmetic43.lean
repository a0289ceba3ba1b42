/-
  The program's circuits for words: products.
-/
import Derived.Test.YthdfkiaoahpjpaaMgFnArithmetic40
namespace Go.Proofs.Ythdfkiaoahpjpaa
open Go.RowKit
set_option linter.unusedVariables false
set_option linter.unusedSimpArgs false
theorem ownF.put {lo g n c i : Nat} {xs : List Int} {w : World} (h : ownF lo (cints xs) (.slice (some ⟨g, 0, none⟩) n c) w) (z : Int) : ownF lo (cints (xs.set i z)) (.slice (some ⟨g, 0, none⟩) n c) (w.setCell ⟨g, i, none⟩ (.int .i64 z)) := by
  obtain ⟨F, h1, h2⟩ := h
  obtain ⟨A, c', e, _, hr⟩ := cints_row h1
  injection e with e1 e2 e3
  have hr := hr lo h2
  rw [← e2] at hr
  have hs := hr.stored i (.int .i64 z)
  rw [← List.map_set] at hs
  exact ownF.ints hs.1
theorem ownF.blk {lo g n c : Nat} {xs : List Int} {w : World} (h : ownF lo (cints xs) (.slice (some ⟨g, 0, none⟩) n c) w) : lo ≤ g ∧ ∃ cur, Blk w g 3 cur := by
  obtain ⟨F, h1, h2⟩ := h
  obtain ⟨A, c', e, _, hr⟩ := cints_row h1
  obtain ⟨cur, hb, hl⟩ := own_blk9 (hr lo h2) (g := g) rfl
  exact ⟨hl, cur, hb⟩
set_option maxHeartbeats 8000000 in
set_option maxRecDepth 100000 in
theorem implWordMul_c (m : CM) (A B : Option Addr) (c d : Nat) (x y : List Int) (v : Value) (w0 : World) (h : AggR w0 (ccircuit m) v) (hx : Ints w0 A 4 x) (hc : 4 ≤ c) (hc2 : c ≤ maxLen) (hy : Ints w0 B 4 y) (hd : 4 ≤ d) (hd2 : d ≤ maxLen) (ask : WAsk m) (wx : wordB m x) (wy : wordB m y) :
    Calls Try.prog 19 #[v, .slice A 4 c, .slice B 4 d] w0 fun e w' => ∃ V U, e = .returned (.tuple #[V, U]) ∧ aggF w0.heap.size (ccircuit (mulTo m x y 3).2) V w' ∧ ownF w0.heap.size (cints (mulTo m x y 3).1) U w' ∧ w0.grownBy w' none := by
  obtain ⟨u0, u1, rfl, h1, h2⟩ := ccircuit_open h
  obtain ⟨Ag, cg, rfl, _, _, _⟩ := plst_rd (s := 3) (fun _ => rfl) (by omega) h1
  obtain ⟨w1, hw1⟩ : ∃ q : World, (w0.alloc (.cells #[.slice Ag m.gt.length cg, u1] 28)).alloc (.cells #[.slice none 0 0, .slice none 0 0] 28) = q := ⟨_, rfl⟩
  have G1 : Hid (w0.grownBy w1 none) := by rw [← hw1]; exact gbA (gbA (gbR _ _) _) _
  have z1 : w0.heap.size + 2 ≤ w1.heap.size := by rw [← hw1]; simp
  have D1 : Hid (Blk w1 w0.heap.size 28 #[.slice Ag m.gt.length cg, u1]) := by rw [← hw1]; exact (Blk.new w0 _ _).grow (gbA (gbR _ _) _)
  have DR : Hid (Blk w1 (w0.heap.size + 1) 28 #[.slice none 0 0, .slice none 0 0]) := by rw [← hw1]; exact Blk.new' _ _ _ _ (by simp)
  have HV := Lib.hid h
  have HX := Lib.hid hx
  have HY := Lib.hid hy
  have ASK := Lib.hid ask
  have WX := Lib.hid wx
  have WY := Lib.hid wy
  have HC := Lib.hid hc2
  have HD := Lib.hid hd2
  clear h h1 h2 hx hy ask wx wy hc2 hd2
  go_enter Try.func19, Try.ntmps19
  have k0 := D1.out.cell 0
  have k1 := D1.out.cell 1
  simp at k0 k1
  go_wp2_with fail
  clear hw1 k0 k1
  refine (implcopyCircuit_c m _ w1 (HV.out.grow G1.out) (by have := ASK.out.few; omega) (by have := ASK.out.outs; omega)).mono ?_
  rintro e w2 ⟨v2, rfl, o2, g2⟩
  obtain ⟨A2, n2, c2, B2, m2, d2, rfl⟩ := ccircuit_oform o2.choose_spec.1
  have z2 := g2.size
  obtain ⟨w3, hw3⟩ : ∃ q : World, w2.alloc (.cells #[.slice A2 n2 c2, .slice B2 m2 d2] 77) = q := ⟨_, rfl⟩
  have g3 : w2.grownBy w3 none := by rw [← hw3]; exact gbA (gbR _ _) _
  have B3 : Hid (BS 77 w0.heap.size (w2.heap.size + 1) m w2.heap.size w3) := by rw [← hw3]; exact Lib.hid (BS.made (o2.lo (by omega)) (by omega))
  have G3 := Lib.hid (gbT G1.out (gbT g2 g3))
  have D3 := Lib.hid (D1.out.grow (gbT g2 g3))
  have R3 := Lib.hid (DR.out.grow (gbT g2 g3))
  have z3 : w3.heap.size = w2.heap.size + 1 := by rw [← hw3]; simp
  have Z3 := Lib.hid z3
  have k0 := D3.out.cell 0
  have k1 := D3.out.cell 1
  simp at k0 k1
  clear G1 D1 DR o2 g2 g3
  clear z3
  go_wp2_with fail
  have gA := gbA (gbR w3 none) (.cells #[.slice A 4 c, .slice B 4 d] 24)
  refine (implisWordOf_yes m _ [x, y] _ 2 2 _ (HV.out.grow (gbT G3.out gA)) (mat_two (Blk.new w3 _ _) (by simp) ((HX.out.grow G3.out).grow gA) hc HC.out ((HY.out.grow G3.out).grow gA) hd HD.out) ASK.out.ok ASK.out.few (fun r hr => by
    simp at hr
    rcases hr with rfl | rfl
    · exact WX.out
    · exact WY.out) (by omega)).mono ?_
  rintro e w5 ⟨rfl, g5⟩
  have g35 := gbT gA g5
  have B5 := Lib.hid (B3.out.grow g35)
  have G5 := Lib.hid (gbT G3.out g35)
  have R5 := Lib.hid (R3.out.grow g35)
  have D5 := Lib.hid (D3.out.grow g35)
  have z5 : w2.heap.size + 1 ≤ w5.heap.size := by have := g35.size; have := Z3.out; omega
  clear gA g5 g35 B3 G3 R3 D3 hw3 k0 k1 Z3
  have few : m.gt.length ≤ 5900 := ASK.out.few
  obtain ⟨w6, hw6⟩ : ∃ q : World, w5.alloc (.cells #[] 3) = q := ⟨_, rfl⟩
  have G6 : Hid (w5.grownBy w6 none) := by rw [← hw6]; exact Lib.hid (gbA (gbR _ _) _)
  have R1 : Hid (ownF w5.heap.size (cints (mulA m x y 0).1) (.slice (some ⟨w5.heap.size, 0, none⟩) 0 0) w6) := by
    rw [← hw6]
    exact Lib.hid (ownF.ints (World.ownsRow_made w5 #[] 0 (Nat.le_refl _) (by simp) rfl))
  have BL : Hid (Bld 77 w0.heap.size (w2.heap.size + 1) (mulA m x y 0).2 w2.heap.size w5 w6) := Lib.hid ⟨B5.out.grow G6.out, GBT.grow G6.out⟩
  have HX6 := Lib.hid (SRV.low (T := 77) HX.out G5.out)
  have HY6 := Lib.hid (SRV.low (T := 77) HY.out G5.out)
  obtain ⟨bx, ox, rfl, -, -⟩ := HX6.out.now.at_ (by omega)
  obtain ⟨bz, oz, rfl, -, -⟩ := HY6.out.now.at_ (by omega)
  clear G6 B5
  go_wp2_with fail
  try rw [hw6]
  clear hw6
  go_loopw [9, 32] (fun t i wr => ∃ k c1 : Nat, ∃ A1 : Option Addr, k ≤ 4 ∧ i = .int .i64 k ∧ t = .slice A1 k c1 ∧ Hid (ownF w5.heap.size (cints (mulA m x y k).1) (.slice A1 k c1) wr) ∧ Hid (Bld 77 w0.heap.size (w2.heap.size + 1) (mulA m x y k).2 w2.heap.size w5 wr)) (fun _ i _ => 4 - (intOf i).toNat)
  case atStart => exact ⟨0, 0, _, Nat.zero_le _, rfl, rfl, R1, BL⟩
  case round =>
    clear R1 BL
    obtain ⟨k, c1, A1, hk, rfl, rfl, RO, BL⟩ := hrel
    obtain ⟨l1, l2⟩ := mulA_len m x y k
    have hst : mulA m x y (k + 1) = ((mulA m x y k).1 ++ [((mulA m x y k).2.gt.length : Int)], (mulA m x y k).2.put 4 (y.getD 0 0) (x.getD k 0)) := rfl
    obtain ⟨s, hs⟩ : ∃ s, mulA m x y k = s := ⟨_, rfl⟩
    rw [hs] at l1 l2 RO BL hst
    have HS := Lib.hid hs
    have L1 := Lib.hid l1
    have L2 := Lib.hid l2
    have hsz := BL.out.2.size
    by_cases hlt : k < 4
    · have i1 : (k : Int) < 4 := by omega
      have ky := (HY6.out wr BL.out.2).val (j := 0) (by omega)
      have kx := (HX6.out wr BL.out.2).val hlt
      rw [Nat.add_zero] at ky
      obtain ⟨xk, hxk⟩ : ∃ q, x.getD k 0 = q := ⟨_, rfl⟩
      obtain ⟨y0, hy0⟩ : ∃ q, y.getD 0 0 = q := ⟨_, rfl⟩
      rw [hxk, hy0] at hst
      rw [hxk] at kx
      rw [hy0] at ky
      have HST := Lib.hid hst
      clear hst hxk hy0 l1 l2 hs
      go_wp2_with fail
      clear kx ky
      refine (implgate_c s.2 w2.heap.size w0.heap.size (w2.heap.size + 1) 4 y0 xk wr BL.out.1 (by have := L2.out; omega) (by omega)).mono ?_
      rintro e w7 ⟨rfl, b7⟩
      have O7 := Lib.hid (GBT.ownF b7.2 hT9 RO.out)
      have B7 := Lib.hid (BL.out.trans b7)
      have hz7 := b7.2.size
      clear b7 RO BL
      go_wp2_with (at_builtin; refine wp_pushI w7 w7.heap.size rfl rfl (.tmp 36) (.tmp 43) rfl s.2.gt.length w5.heap.size A1 k c1 s.1 O7.out L1.out rfl rfl (by omega) (by omega) ?_; intro A8 c8 w8 O8 C8)
      have O9 : Hid (ownF w5.heap.size (cints (mulA m x y (k + 1)).1) (.slice A8 (k + 1) c8) w8) := by rw [HST.out]; exact O8
      have B9 : Hid (Bld 77 w0.heap.size (w2.heap.size + 1) (mulA m x y (k + 1)).2 w2.heap.size w5 w8) := by rw [HST.out]; exact Lib.hid (B7.out.push C8.out (by omega) (Nat.le_refl _))
      clear O7 B7 O8 C8
      go_roundw
      case rel => exact ⟨k + 1, c8, A8, by omega, by go_num, rfl, O9, B9⟩
      case measure => simp [intOf]; omega
    · have hk4 : k = 4 := by omega
      subst hk4
      clear l1 l2 hs hst
      rw [show ((4 : Nat) : Int) = 4 from rfl]
      have R9 : Hid (ownF w5.heap.size (cints (mulTo m x y 0).1) (.slice A1 4 c1) wr) := by show Hid (ownF _ (cints (mulA m x y 4).1) _ _); rw [HS.out]; exact RO
      have BM : Hid (Bld 77 w0.heap.size (w2.heap.size + 1) (mulTo m x y 0).2 w2.heap.size w5 wr) := by show Hid (Bld _ _ _ (mulA m x y 4).2 _ _ _); rw [HS.out]; exact BL
      obtain ⟨wo, rfl⟩ : ∃ wo : World, wo = wr := ⟨_, rfl⟩
      clear RO BL HS L1 L2 hsz hlt
      go_wp2_with fail
      go_loopw [9, 12] (fun t i wr => ∃ j c1 : Nat, ∃ A1 : Option Addr, j ≤ 3 ∧ i = .int .i64 ((j + 1 : Nat) : Int) ∧ t = .slice A1 4 c1 ∧ Hid (ownF w5.heap.size (cints (mulTo m x y j).1) (.slice A1 4 c1) wr) ∧ Hid (Bld 77 w0.heap.size (w2.heap.size + 1) (mulTo m x y j).2 w2.heap.size w5 wr)) (fun _ i _ => 4 - (intOf i).toNat)
      case atStart => exact ⟨0, c1, A1, Nat.zero_le _, rfl, rfl, R9, BM⟩
      case round =>
        clear R9 BM
        obtain ⟨j, c1, A1, hj, rfl, rfl, RO, BL⟩ := hrel
        obtain ⟨ls1, ls2⟩ := mulTo_len m x y j hj
        have hsz := BL.out.2.size
        have SX := Lib.hid (HX6.out.next BL.out.2)
        have SY := Lib.hid (HY6.out.next BL.out.2)
        have SS := Lib.hid (SRV.own (lo := w0.heap.size) (T := 77) RO.out hT9)
        have hA4 : 4 ≤ c1 ∧ c1 ≤ maxLen := by
          obtain ⟨F, h1, _⟩ := RO.out
          obtain ⟨h2, h3, h4, _⟩ := cints_rd' ((cints _).toRd h1)
          exact ⟨h3, h4⟩
        obtain ⟨hA4, hA5⟩ := hA4
        by_cases hj3 : j < 3
        · obtain ⟨wp, hwp⟩ : ∃ wp : World, wp = wr := ⟨_, rfl⟩
          obtain ⟨s, hs⟩ : ∃ s, mulTo m x y j = s := ⟨_, rfl⟩
          have hst : mulTo m x y (j + 1) = sumM (prodTo (mulTo m x y j).2 x y (j + 1) (3 - j)).2 (mulTo m x y j).1 (prodTo (mulTo m x y j).2 x y (j + 1) (3 - j)).1 0 (j + 1) := rfl
          rw [hs] at ls1 ls2 RO BL SS hst
          obtain ⟨ii, hii⟩ : ∃ ii, j + 1 = ii := ⟨_, rfl⟩
          rw [hii] at hst ⊢
          have hii1 : 1 ≤ ii := by omega
          have hii3 : ii ≤ 3 := by omega
          have i4 : (ii : Int) < 4 := by omega
          have HST := Lib.hid hst
          have HII := Lib.hid hii
          have HS := Lib.hid hs
          have LS2 := Lib.hid ls2
          have LS1 := Lib.hid ls1
          have HWP := Lib.hid hwp
          clear hst hs ls1 ls2 hwp
          go_wp2_with (at_make; refine wp_makeN _ el_int rfl _ _ rfl 4 rfl rfl (by omega) (by unfold maxLen; omega) ?_; intro w8 o8 g8; rw [show (Value.int .i64 0).cells = #[.int .i64 0] from rfl, made_one] at o8; have O8 := Lib.hid o8; have G8 := Lib.hid g8; clear o8 g8)
          have PO : Hid (ownF wr.heap.size (cints (prodTo s.2 x y ii 0).1) (.slice (some ⟨wr.heap.size, 0, none⟩) 4 4) w8) := Lib.hid (ownF.ints (n := 4) (by simpa [prodTo] using O8.out))
          have PB : Hid (Bld 77 w0.heap.size (w2.heap.size + 1) (prodTo s.2 x y ii 0).2 w2.heap.size wr w8) := Lib.hid ⟨BL.out.1.grow G8.out, GBT.grow G8.out⟩
          obtain ⟨wm, hwm⟩ : ∃ wm : World, wm = wr := ⟨_, rfl⟩
          rw [← hwm] at PO PB BL SX SY SS hsz RO HWP ⊢
          clear O8 G8 hwm HWP
          go_loopw [14] (fun kk wr => ∃ k : Nat, k ≤ 4 - ii ∧ kk = .int .i64 k ∧ Hid (ownF wm.heap.size (cints (prodTo s.2 x y ii k).1) (.slice (some ⟨wm.heap.size, 0, none⟩) 4 4) wr) ∧ Hid (Bld 77 w0.heap.size (w2.heap.size + 1) (prodTo s.2 x y ii k).2 w2.heap.size wm wr)) (fun kk _ => 4 - (intOf kk).toNat)
          case atStart => exact ⟨0, Nat.zero_le _, rfl, PO, PB⟩
          case round =>
            clear PO PB
            obtain ⟨k, hk, rfl, PO, PB⟩ := hrel
            obtain ⟨lp1, lp2⟩ := prodTo_len s.2 x y ii k
            have hsq := PB.out.2.size
            have hst : prodTo s.2 x y ii (k + 1) = ((prodTo s.2 x y ii k).1.set (ii + k) ((prodTo s.2 x y ii k).2.gt.length : Int), (prodTo s.2 x y ii k).2.put 4 (y.getD ii 0) (x.getD k 0)) := rfl
            obtain ⟨q, hq⟩ : ∃ q, prodTo s.2 x y ii k = q := ⟨_, rfl⟩
            rw [hq] at lp1 lp2 PO PB hst
            have HQ := Lib.hid hq
            have LP1 := Lib.hid lp1
            have LP2 := Lib.hid lp2
            obtain ⟨N, hN⟩ : ∃ N, q.2.gt.length = N := ⟨_, rfl⟩
            rw [hN] at hst
            have LN := Lib.hid hN
            by_cases hlt : k + ii ≤ 3
            · have i5 : (k : Int) ≤ 3 - (ii : Int) := by omega
              obtain ⟨xk, hxk⟩ : ∃ q, x.getD k 0 = q := ⟨_, rfl⟩
              obtain ⟨yk, hyk⟩ : ∃ q, y.getD ii 0 = q := ⟨_, rfl⟩
              rw [hxk, hyk] at hst
              obtain ⟨qq, hqq⟩ : ∃ qq, ii + k = qq := ⟨_, rfl⟩
              rw [hqq] at hst
              have hq4 : qq < 4 := by omega
              have iq : (qq : Int) < 4 := by omega
              have ik : (k : Int) < 4 := by omega
              have HQQ : Hid ((ii : Int) + (k : Int) = (qq : Int)) := Lib.hid (by omega)
              have HST := Lib.hid hst
              have HXK := Lib.hid hxk
              have HYK := Lib.hid hyk
              clear hxk hyk hst hN hq lp1 lp2 hqq
              have FX : Hid (∀ wx, Chg (GBT 77 w0.heap.size wm) wm wx → wx.cell? ⟨bx, ox + k, none⟩ = some (.int .i64 xk)) := Lib.hid (fun wx hh => by rw [← HXK.out]; exact (SX.out wx hh).val (by omega))
              have FY : Hid (∀ wx, Chg (GBT 77 w0.heap.size wm) wm wx → wx.cell? ⟨bz, oz + ii, none⟩ = some (.int .i64 yk)) := Lib.hid (fun wx hh => by rw [← HYK.out]; exact (SY.out wx hh).val (by omega))
              go_wp2_with fail
              refine region_open [.rd (.slice (some ⟨wm.heap.size, 0, none⟩) 4 4), .rd (.int .i64 ii), .rd (.int .i64 k), .rd (.int .i64 qq), .rd (.pointer (some ⟨w2.heap.size, 0, none⟩)), .rd (.slice (some ⟨bz, oz, none⟩) 4 d), .rd (.int .i64 ii), .rd (.pointer (some ⟨bz, oz + ii, none⟩)), .rd (.int .i64 yk), .rd (.slice (some ⟨bx, ox, none⟩) 4 c), .rd (.int .i64 k), .rd (.pointer (some ⟨bx, ox + k, none⟩)), .rd (.int .i64 xk), .ch (some (.int .i64 N)), .rd (.pointer (some ⟨wm.heap.size, qq, none⟩)), .ch none] (fun yy => GBT 77 w0.heap.size wm yy) [⟨[], fun _ w' => w' = wr.drew⟩,
                 ⟨[70], fun l w' => ownF wm.heap.size (cints q.1) (.slice (some ⟨wm.heap.size, 0, none⟩) 4 4) w' ∧ Bld 77 w0.heap.size (w2.heap.size + 1) (q.2.put 4 yk xk) w2.heap.size wm w'⟩,
                 ⟨[], fun l w' => ownF wm.heap.size (cints (q.1.set qq N)) (.slice (some ⟨wm.heap.size, 0, none⟩) 4 4) w' ∧ Bld 77 w0.heap.size (w2.heap.size + 1) (q.2.put 4 yk xk) w2.heap.size wm w'⟩] (by kernel_rfl) (by kernel_rfl) (by kernel_rfl) 2 (by kernel_rfl) rfl rfl ?_ ?_
              · simp only [hopsOK, hopO, Ko.next, and_true]
                refine ⟨?_, ?_, ?_, ?_, ?_, ?_, ?_, ?_, ?_, ?_, ?_, ?_, ?_, ?_, ?_, ?_⟩
                · intro f w4 hG hold hd
                  have hS4 := (PB.out.2).trans (chgDr hG)
                  clear hG
                  clear hold
                  (try simp [depsO, dstAt, oAt, Ko.val, bindE, List.filter_cons, bd_data, bd_chain, bd_guard, bd_phase, bd_text, bd_gc] at hd)
                  (first | simp [puts, dsts, Act.put, hd] | simp [puts, dsts, Act.put])
                  clear hd
                  go_wp2_with fail
                  exact ⟨rfl, rfl⟩
                · intro f w4 hG hold hd
                  have hS4 := (PB.out.2).trans (chgDr hG)
                  clear hG
                  clear hold
                  (try simp [depsO, dstAt, oAt, Ko.val, bindE, List.filter_cons, bd_data, bd_chain, bd_guard, bd_phase, bd_text, bd_gc] at hd)
                  (first | simp [puts, dsts, Act.put, hd] | simp [puts, dsts, Act.put])
                  clear hd
                  go_wp2_with fail
                  exact ⟨rfl, rfl⟩
                · intro f w4 hG hold hd
                  have hS4 := (PB.out.2).trans (chgDr hG)
                  clear hG
                  clear hold
                  (try simp [depsO, dstAt, oAt, Ko.val, bindE, List.filter_cons, bd_data, bd_chain, bd_guard, bd_phase, bd_text, bd_gc] at hd)
                  (first | simp [puts, dsts, Act.put, hd] | simp [puts, dsts, Act.put])
                  clear hd
                  go_wp2_with fail
                  exact ⟨rfl, rfl⟩
                · intro f w4 hG hold hd
                  have hS4 := (PB.out.2).trans (chgDr hG)
                  clear hG
                  clear hold
                  (try simp [depsO, dstAt, oAt, Ko.val, bindE, List.filter_cons, bd_data, bd_chain, bd_guard, bd_phase, bd_text, bd_gc] at hd)
                  (first | simp [puts, dsts, Act.put, hd] | simp [puts, dsts, Act.put])
                  clear hd
                  go_wp2_with fail; rw [HQQ.out]
                  exact ⟨rfl, rfl⟩
                · intro f w4 hG hold hd
                  have hS4 := (PB.out.2).trans (chgDr hG)
                  clear hG
                  clear hold
                  (try simp [depsO, dstAt, oAt, Ko.val, bindE, List.filter_cons, bd_data, bd_chain, bd_guard, bd_phase, bd_text, bd_gc] at hd)
                  (first | simp [puts, dsts, Act.put, hd] | simp [puts, dsts, Act.put])
                  clear hd
                  go_wp2_with fail
                  exact ⟨rfl, rfl⟩
                · intro f w4 hG hold hd
                  have hS4 := (PB.out.2).trans (chgDr hG)
                  clear hG
                  clear hold
                  (try simp [depsO, dstAt, oAt, Ko.val, bindE, List.filter_cons, bd_data, bd_chain, bd_guard, bd_phase, bd_text, bd_gc] at hd)
                  (first | simp [puts, dsts, Act.put, hd] | simp [puts, dsts, Act.put])
                  clear hd
                  go_wp2_with fail
                  exact ⟨rfl, rfl⟩
                · intro f w4 hG hold hd
                  have hS4 := (PB.out.2).trans (chgDr hG)
                  clear hG
                  clear hold
                  (try simp [depsO, dstAt, oAt, Ko.val, bindE, List.filter_cons, bd_data, bd_chain, bd_guard, bd_phase, bd_text, bd_gc] at hd)
                  (first | simp [puts, dsts, Act.put, hd] | simp [puts, dsts, Act.put])
                  clear hd
                  go_wp2_with fail
                  exact ⟨rfl, rfl⟩
                · intro f w4 hG hold hd
                  have hS4 := (PB.out.2).trans (chgDr hG)
                  clear hG
                  clear hold
                  (try simp [depsO, dstAt, oAt, Ko.val, bindE, List.filter_cons, bd_data, bd_chain, bd_guard, bd_phase, bd_text, bd_gc] at hd)
                  (first | simp [puts, dsts, Act.put, hd] | simp [puts, dsts, Act.put])
                  clear hd
                  go_wp2_with fail
                  exact ⟨rfl, rfl⟩
                · intro f w4 hG hold hd
                  have hS4 := (PB.out.2).trans (chgDr hG)
                  clear hG
                  have k1 := (FY.out) _ hS4
                  clear hold
                  (try simp [depsO, dstAt, oAt, Ko.val, bindE, List.filter_cons, bd_data, bd_chain, bd_guard, bd_phase, bd_text, bd_gc] at hd)
                  (first | simp [puts, dsts, Act.put, hd] | simp [puts, dsts, Act.put])
                  clear hd
                  go_wp2_with fail
                  exact ⟨rfl, rfl⟩
                · intro f w4 hG hold hd
                  have hS4 := (PB.out.2).trans (chgDr hG)
                  clear hG
                  clear hold
                  (try simp [depsO, dstAt, oAt, Ko.val, bindE, List.filter_cons, bd_data, bd_chain, bd_guard, bd_phase, bd_text, bd_gc] at hd)
                  (first | simp [puts, dsts, Act.put, hd] | simp [puts, dsts, Act.put])
                  clear hd
                  go_wp2_with fail
                  exact ⟨rfl, rfl⟩
                · intro f w4 hG hold hd
                  have hS4 := (PB.out.2).trans (chgDr hG)
                  clear hG
                  clear hold
                  (try simp [depsO, dstAt, oAt, Ko.val, bindE, List.filter_cons, bd_data, bd_chain, bd_guard, bd_phase, bd_text, bd_gc] at hd)
                  (first | simp [puts, dsts, Act.put, hd] | simp [puts, dsts, Act.put])
                  clear hd
                  go_wp2_with fail
                  exact ⟨rfl, rfl⟩
                · intro f w4 hG hold hd
                  have hS4 := (PB.out.2).trans (chgDr hG)
                  clear hG
                  clear hold
                  (try simp [depsO, dstAt, oAt, Ko.val, bindE, List.filter_cons, bd_data, bd_chain, bd_guard, bd_phase, bd_text, bd_gc] at hd)
                  (first | simp [puts, dsts, Act.put, hd] | simp [puts, dsts, Act.put])
                  clear hd
                  go_wp2_with fail
                  exact ⟨rfl, rfl⟩
                · intro f w4 hG hold hd
                  have hS4 := (PB.out.2).trans (chgDr hG)
                  clear hG
                  have k0 := (FX.out) _ hS4
                  clear hold
                  (try simp [depsO, dstAt, oAt, Ko.val, bindE, List.filter_cons, bd_data, bd_chain, bd_guard, bd_phase, bd_text, bd_gc] at hd)
                  (first | simp [puts, dsts, Act.put, hd] | simp [puts, dsts, Act.put])
                  clear hd
                  go_wp2_with fail
                  exact ⟨rfl, rfl⟩
                · intro f w4 hG hI hold hd
                  have hS4 := (PB.out.2).trans (chgDr hG)
                  clear hG
                  clear hold
                  have hI : w4 = wr.drew := hI
                  subst hI
                  (try simp [depsO, dstAt, oAt, Ko.val, bindE, List.filter_cons, bd_data, bd_chain, bd_guard, bd_phase, bd_text, bd_gc] at hd)
                  (first | simp [puts, dsts, Act.put, hd] | simp [puts, dsts, Act.put])
                  clear hd
                  go_wp2_with fail
                  have hgr : wr.grownBy wr.drew none := gbD (gbR _ none)
                  refine (implgate_c q.2 w2.heap.size w0.heap.size (w2.heap.size + 1) 4 yk xk wr.drew (PB.out.1.grow hgr) (by have := LP2.out; have := LS2.out; omega) (by have := hgr.size; omega)).mono ?_
                  rintro e w6 ⟨rfl, b6⟩
                  rw [LN.out]
                  have B6 := Lib.hid b6
                  clear b6
                  go_wp2_with fail
                  exact ⟨_, rfl, by first | exact isVal.yes | exact isVal.no, ⟨GBT.ownF B6.out.2 hT9 (PO.out.grow hgr), (PB.out.grow hgr).trans B6.out⟩, (GBT.on hS4 (by omega) B6.out.2)⟩
                · intro f w4 hG hold hd
                  have hS4 := (PB.out.2).trans (chgDr hG)
                  clear hG
                  clear hold
                  (try simp [depsO, dstAt, oAt, Ko.val, bindE, List.filter_cons, bd_data, bd_chain, bd_guard, bd_phase, bd_text, bd_gc] at hd)
                  (first | simp [puts, dsts, Act.put, hd] | simp [puts, dsts, Act.put])
                  clear hd
                  go_wp2_with fail
                  exact ⟨rfl, rfl⟩
                · intro f w4 hG hI hold hd
                  have hS4 := (PB.out.2).trans (chgDr hG)
                  clear hG
                  clear hold
                  have O4 := Lib.hid hI.1
                  have B4 := Lib.hid hI.2
                  clear hI
                  have kc := (own4 O4.out).1.val hq4
                  rw [Nat.zero_add] at kc
                  obtain ⟨_, cur, hcur⟩ := O4.out.blk
                  have hfr := hcur.frozen qq
                  have PS : Hid (Chg (PSH wm.heap.size w4) w4 (w4.setCell ⟨wm.heap.size, qq, none⟩ (.int .i64 N))) := Lib.hid ((chgS w4 wm.heap.size qq _).mono (fun y hy => by have hy : y = wm.heap.size := hy; subst hy; exact ⟨Nat.le_refl _, cur, hcur⟩))
                  clear hcur
                  (try simp [depsO, dstAt, oAt, Ko.val, bindE, List.filter_cons, bd_data, bd_chain, bd_guard, bd_phase, bd_text, bd_gc] at hd)
                  (first | simp [puts, dsts, Act.put, hd] | simp [puts, dsts, Act.put])
                  clear hd
                  go_wp2_with fail
                  exact ⟨rfl, .bool false, isVal.no, ⟨O4.out.put N, B4.out.push PS.out (by omega) (Nat.le_refl _)⟩, PSH.gbt' PS.out (by omega) (Nat.le_refl _)⟩
              intro f w9 hG hI hd
              have hS5 := (PB.out.2).trans (chgDr hG)
              clear hG
              simp [knowsO, dstAt, Ko.val] at hd
              simp only [puts, dsts, Act.put, hd, List.filterMap_cons, List.filterMap_nil, List.setIfInBounds_toArray, List.set_cons_zero, List.set_cons_succ]
              clear hd
              have O9 : Hid (ownF wm.heap.size (cints (prodTo s.2 x y ii (k + 1)).1) (.slice (some ⟨wm.heap.size, 0, none⟩) 4 4) w9) := by rw [HST.out]; exact Lib.hid hI.1
              have B9 : Hid (Bld 77 w0.heap.size (w2.heap.size + 1) (prodTo s.2 x y ii (k + 1)).2 w2.heap.size wm w9) := by rw [HST.out]; exact Lib.hid hI.2
              clear hI hS5 PO PB
              go_wp2_with fail
              go_roundw
              case rel => exact ⟨k + 1, by omega, by go_num, O9, B9⟩
              case measure => simp [intOf]; omega
            · have hkk : 4 - ii = k := by omega
              have h3j : 3 - j = k := by have := HII.out; omega
              rw [h3j, HQ.out] at HST
              have i5 : ¬ (k : Int) ≤ 3 - (ii : Int) := by omega
              have HST2 := Lib.hid HST.out
              clear hst hN hq lp1 lp2 hkk h3j HST
              go_wp2_with fail
              refine (implsum_c q.2 w2.heap.size w0.heap.size (w2.heap.size + 1) A1 (some ⟨wm.heap.size, 0, none⟩) c1 4 s.1 q.1 0 ii wr PB.out.1 (SS.out.next PB.out.2) (SRV.own PO.out hT9) hA4 hA5 (by have := LP2.out; have := LS2.out; omega) hii3 (by omega) (by omega)).mono ?_
              rintro e w9 ⟨v9, rfl, o9, b9⟩
              obtain ⟨A9, c9, rfl, o9⟩ := o9.row
              have ll := (sumM_len q.2 s.1 q.1 0 ii (by have := LS1.out; omega) hii3).1
              rw [ll] at o9 ⊢
              have O9 : Hid (ownF w5.heap.size (cints (mulTo m x y (j + 1)).1) (.slice A9 4 c9) w9) := by rw [HII.out, HST2.out]; exact Lib.hid (o9.lo (by omega))
              have B9 : Hid (Bld 77 w0.heap.size (w2.heap.size + 1) (mulTo m x y (j + 1)).2 w2.heap.size w5 w9) := by rw [HII.out, HST2.out]; exact Lib.hid (BL.out.trans (PB.out.trans b9))
              clear o9 b9 ll PO PB
              have hi1 : j + 1 + 1 = ii + 1 := by have := HII.out; omega
              have HI1 := Lib.hid hi1
              clear hi1
              go_wp2_with fail
              go_roundw
              case rel => exact ⟨j + 1, c9, A9, by omega, by rw [HI1.out]; go_num, rfl, O9, B9⟩
              case measure => simp [intOf]; omega
        · have hj33 : j = 3 := by omega
          subst hj33
          clear ls1 ls2
          have R6 := R5.out.gbt BL.out.2 (by decide) (by decide)
          obtain ⟨A7, n7, c7, B7, m7, d7, hBg, hBr, hV, hG, hO⟩ := BS.fin BL.out.1 (GBT.base G5.out BL.out.2) R6 (by omega)
          have hz9 := BL.out.2.size
          simp only [setCells, Nat.zero_add, Nat.reduceAdd] at hBr hV hG
          have k0 := hBg.cell 0
          have k1 := hBg.cell 1
          have r0 := R6.cell 0
          have r1 := R6.cell 1
          have f0 := R6.frozen 0
          have f1 := R6.frozen 1
          simp at k0 k1 r0 r1
          have HO7 := Lib.hid (by have := hO _ _ _ RO.out; simp only [setCells, Nat.zero_add, Nat.reduceAdd] at this; exact this.lo (show w0.heap.size ≤ w5.heap.size by omega))
          have HBR := Lib.hid hBr
          have HV7 := Lib.hid hV
          have HG7 := Lib.hid hG
          clear hBg hBr hV hG hO R6
          go_wp2_with fail
          refine ret_ct Try.results19 (by rfl) stCircuit HBR.out rfl (by rfl) ?_
          exact ⟨_, _, rfl, HV7.out, HO7.out, HG7.out⟩
end Go.Proofs.Ythdfkiaoahpjpaa
