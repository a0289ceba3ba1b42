/-
  The program's circuits for words: less, equal, the choice.
-/
import Derived.Test.YthdfkiaoahpjpaaMgFnComparisons38
namespace Go.Proofs.Ythdfkiaoahpjpaa
open Go.RowKit
set_option linter.unusedVariables false
set_option linter.unusedSimpArgs false
set_option maxHeartbeats 4000000 in
set_option maxRecDepth 100000 in
theorem implWordLess_c (m : CM) (A B : Option Addr) (c d : Nat) (x y : List Int) (v : Value) (w0 : World) (h : AggR w0 (ccircuit m) v) (hx : Ints w0 A 4 x) (hc : 4 ≤ c) (hc2 : c ≤ maxLen) (hy : Ints w0 B 4 y) (hd : 4 ≤ d) (hd2 : d ≤ maxLen) (ask : WAsk m) (wx : wordB m x) (wy : wordB m y) :
    Calls Try.prog 12 #[v, .slice A 4 c, .slice B 4 d] w0 fun e w' => ∃ V, e = .returned (.tuple #[V, .int .i64 (lessM m x y).1]) ∧ aggF w0.heap.size (ccircuit (lessM m x y).2) V w' ∧ w0.grownBy w' none := by
  obtain ⟨u0, u1, rfl, h1, h2⟩ := ccircuit_open h
  obtain ⟨Ag, cg, rfl, _, _, _⟩ := plst_rd (s := 3) (fun _ => rfl) (by omega) h1
  obtain ⟨w1, hw1⟩ : ∃ q : World, (w0.alloc (.cells #[.slice Ag m.gt.length cg, u1] 28)).alloc (.cells #[.slice none 0 0, .slice none 0 0] 28) = q := ⟨_, rfl⟩
  have G1 : Hid (w0.grownBy w1 none) := by rw [← hw1]; exact gbA (gbA (gbR _ _) _) _
  have z1 : w0.heap.size + 2 ≤ w1.heap.size := by rw [← hw1]; simp
  have D1 : Hid (Blk w1 w0.heap.size 28 #[.slice Ag m.gt.length cg, u1]) := by rw [← hw1]; exact (Blk.new w0 _ _).grow (gbA (gbR _ _) _)
  have DR : Hid (Blk w1 (w0.heap.size + 1) 28 #[.slice none 0 0, .slice none 0 0]) := by rw [← hw1]; exact Blk.new' _ _ _ _ (by simp)
  have HV := Lib.hid h
  have HX := Lib.hid hx
  have HY := Lib.hid hy
  have ASK := Lib.hid ask
  have WX := Lib.hid wx
  have WY := Lib.hid wy
  have HC := Lib.hid hc2
  have HD := Lib.hid hd2
  clear h h1 h2 hx hy ask wx wy hc2 hd2
  go_enter Try.func12, Try.ntmps12
  have k0 := D1.out.cell 0
  have k1 := D1.out.cell 1
  simp at k0 k1
  go_wp2_with fail
  clear hw1 k0 k1
  refine (implcopyCircuit_c m _ w1 (HV.out.grow G1.out) (by have := ASK.out.few; omega) (by have := ASK.out.outs; omega)).mono ?_
  rintro e w2 ⟨v2, rfl, o2, g2⟩
  obtain ⟨A2, n2, c2, B2, m2, d2, rfl⟩ := ccircuit_oform o2.choose_spec.1
  have z2 := g2.size
  obtain ⟨w3, hw3⟩ : ∃ q : World, w2.alloc (.cells #[.slice A2 n2 c2, .slice B2 m2 d2] 77) = q := ⟨_, rfl⟩
  have g3 : w2.grownBy w3 none := by rw [← hw3]; exact gbA (gbR _ _) _
  have B3 : Hid (BS 77 w0.heap.size (w2.heap.size + 1) m w2.heap.size w3) := by rw [← hw3]; exact Lib.hid (BS.made (o2.lo (by omega)) (by omega))
  have G3 := Lib.hid (gbT G1.out (gbT g2 g3))
  have D3 := Lib.hid (D1.out.grow (gbT g2 g3))
  have R3 := Lib.hid (DR.out.grow (gbT g2 g3))
  have z3 : w3.heap.size = w2.heap.size + 1 := by rw [← hw3]; simp
  have Z3 := Lib.hid z3
  have k0 := D3.out.cell 0
  have k1 := D3.out.cell 1
  simp at k0 k1
  clear G1 D1 DR o2 g2 g3
  clear z3
  go_wp2_with fail
  have gA := gbA (gbR w3 none) (.cells #[.slice A 4 c, .slice B 4 d] 24)
  refine (implisWordOf_yes m _ [x, y] _ 2 2 _ (HV.out.grow (gbT G3.out gA)) (mat_two (Blk.new w3 _ _) (by simp) ((HX.out.grow G3.out).grow gA) hc HC.out ((HY.out.grow G3.out).grow gA) hd HD.out) ASK.out.ok ASK.out.few (fun r hr => by
    simp at hr
    rcases hr with rfl | rfl
    · exact WX.out
    · exact WY.out) (by omega)).mono ?_
  rintro e w5 ⟨rfl, g5⟩
  have g35 := gbT gA g5
  have B5 := Lib.hid (B3.out.grow g35)
  have G5 := Lib.hid (gbT G3.out g35)
  have R5 := Lib.hid (R3.out.grow g35)
  have D5 := Lib.hid (D3.out.grow g35)
  have z5 : w2.heap.size + 1 ≤ w5.heap.size := by have := g35.size; have := Z3.out; omega
  clear gA g5 g35 B3 G3 R3 D3 hw3 k0 k1 Z3
  go_wp2_with fail
  refine (implnots_c m w2.heap.size w0.heap.size (w2.heap.size + 1) B 4 d y w5 B5.out (SRV.low HY.out G5.out) (by have := ASK.out.few; omega) (by omega) (by omega) (by omega)).mono ?_
  rintro e w6 ⟨v6, rfl, o6, b6⟩
  obtain ⟨ln1, ln2⟩ := nots_len m y 4
  obtain ⟨A6, c6, rfl, o6⟩ := o6.row
  obtain ⟨p, hp⟩ : ∃ p, notsTo m y 4 = p := ⟨_, rfl⟩
  have HM : Hid (lessM m x y = (((lessTo p.2 x p.1 4).2.gt.length : Int), (lessTo p.2 x p.1 4).2.put 5 (lessTo p.2 x p.1 4).1 0)) := by unfold Hid lessM; rw [hp]
  rw [hp] at ln1 ln2 o6 b6 ⊢
  rw [ln1] at o6 ⊢
  have z6 := b6.2.size
  have BB6 := Lib.hid b6
  have G6 := Lib.hid (GBT.base G5.out b6.2)
  have L2 := Lib.hid ln2
  have HZ := Lib.hid (SRV.own (lo := w0.heap.size) (T := 77) o6 hT9)
  have HX6 := Lib.hid (SRV.low (T := 77) HX.out G6.out)
  clear o6 b6 ln1 ln2 hp
  obtain ⟨bx, ox, rfl, _, _⟩ := HX6.out.now.at_ (by omega)
  obtain ⟨bz, oz, rfl, _, _⟩ := HZ.out.now.at_ (by omega)
  have few : m.gt.length ≤ 5900 := ASK.out.few
  go_wp2_with fail
  refine (implgate_c p.2 w2.heap.size w0.heap.size (w2.heap.size + 1) 2 1 0 w6 BB6.out.1 (by have := L2.out; omega) (by omega)).mono ?_
  rintro e w7 ⟨rfl, b7⟩
  have BL : Hid (Bld 77 w0.heap.size (w2.heap.size + 1) (lessTo p.2 x p.1 0).2 w2.heap.size w6 w7) := Lib.hid b7
  clear b7
  go_wp2_with fail
  go_loopw [10, 34] (fun q i wr => ∃ k : Nat, k ≤ 4 ∧ i = .int .i64 k ∧ q = .int .i64 (lessTo p.2 x p.1 k).1 ∧ Hid (Bld 77 w0.heap.size (w2.heap.size + 1) (lessTo p.2 x p.1 k).2 w2.heap.size w6 wr)) (fun _ i _ => 4 - (intOf i).toNat)
  case atStart => exact ⟨0, Nat.zero_le _, rfl, rfl, BL⟩
  case round =>
    clear BL
    obtain ⟨k, hk, rfl, rfl, BL⟩ := hrel
    have l2 := lessTo_len p.2 x p.1 k
    have hst : lessTo p.2 x p.1 (k + 1) = (((lessTo p.2 x p.1 k).2.gt.length : Int) + 4, adderM (lessTo p.2 x p.1 k).2 (x.getD k 0) (p.1.getD k 0) (lessTo p.2 x p.1 k).1) := rfl
    obtain ⟨s, hs⟩ : ∃ s, lessTo p.2 x p.1 k = s := ⟨_, rfl⟩
    rw [hs] at l2 BL hst ⊢
    obtain ⟨N, hN⟩ : ∃ N, s.2.gt.length = N := ⟨_, rfl⟩
    rw [hN] at l2 hst
    have lN : N ≤ 60000 := by have := L2.out; omega
    have LN := Lib.hid hN
    have HS := Lib.hid hs
    have hsz := BL.out.2.size
    by_cases hlt : k < 4
    · have i1 : (k : Int) < 4 := by omega
      obtain ⟨xk, hxk⟩ : ∃ q, x.getD k 0 = q := ⟨_, rfl⟩
      obtain ⟨yk, hyk⟩ : ∃ q, p.1.getD k 0 = q := ⟨_, rfl⟩
      rw [hxk, hyk] at hst
      have HST := Lib.hid hst
      have HXK := Lib.hid hxk
      have HYK := Lib.hid hyk
      clear hxk hyk hst l2 hN hs
      have FX : Hid (∀ wx, Chg (GBT 77 w0.heap.size w6) w6 wx → wx.cell? ⟨bx, ox + k, none⟩ = some (.int .i64 xk)) := Lib.hid (fun wx hh => by rw [← HXK.out]; exact (HX6.out wx hh).val (by omega))
      have FY : Hid (∀ wx, Chg (GBT 77 w0.heap.size w6) w6 wx → wx.cell? ⟨bz, oz + k, none⟩ = some (.int .i64 yk)) := Lib.hid (fun wx hh => by rw [← HYK.out]; exact (HZ.out wx hh).val (by omega))
      go_wp2_with fail
      refine region_open [.rd (.pointer (some ⟨w2.heap.size, 0, none⟩)), .rd (.slice (some ⟨bx, ox, none⟩) 4 c), .rd (.int .i64 k), .rd (.pointer (some ⟨bx, ox + k, none⟩)), .rd (.int .i64 xk), .rd (.slice (some ⟨bz, oz, none⟩) 4 c6), .rd (.int .i64 k), .rd (.pointer (some ⟨bz, oz + k, none⟩)), .rd (.int .i64 yk), .rd (.int .i64 s.1), .ch (some (.tuple #[.int .i64 ((N : Int) + 2), .int .i64 ((N : Int) + 4)])), .rd (.tuple #[.int .i64 ((N : Int) + 2), .int .i64 ((N : Int) + 4)]), .rd (.int .i64 ((N : Int) + 2)), .rd (.int .i64 ((N : Int) + 4)), .rd (.int .i64 ((N : Int) + 4))] (fun yy => GBT 77 w0.heap.size w6 yy) [⟨[], fun _ w' => w' = wr.drew⟩,
         ⟨[48], fun l w' => Bld 77 w0.heap.size (w2.heap.size + 1) (adderM s.2 xk yk s.1) w2.heap.size w6 w'⟩] (by kernel_rfl) (by kernel_rfl) (by kernel_rfl) 1 (by kernel_rfl) rfl rfl ?_ ?_
      · simp only [hopsOK, hopO, Ko.next, and_true]
        refine ⟨?_, ?_, ?_, ?_, ?_, ?_, ?_, ?_, ?_, ?_, ?_, ?_, ?_, ?_, ?_⟩
        · intro f w4 hG hold hd
          have hS4 := (BL.out.2).trans (chgDr hG)
          clear hG
          clear hold
          (try simp [depsO, dstAt, oAt, Ko.val, bindE, List.filter_cons, bd_data, bd_chain, bd_guard, bd_phase, bd_text, bd_gc] at hd)
          (first | simp [puts, dsts, Act.put, hd] | simp [puts, dsts, Act.put])
          clear hd
          go_wp2_with fail
          exact ⟨rfl, rfl⟩
        · intro f w4 hG hold hd
          have hS4 := (BL.out.2).trans (chgDr hG)
          clear hG
          clear hold
          (try simp [depsO, dstAt, oAt, Ko.val, bindE, List.filter_cons, bd_data, bd_chain, bd_guard, bd_phase, bd_text, bd_gc] at hd)
          (first | simp [puts, dsts, Act.put, hd] | simp [puts, dsts, Act.put])
          clear hd
          go_wp2_with fail
          exact ⟨rfl, rfl⟩
        · intro f w4 hG hold hd
          have hS4 := (BL.out.2).trans (chgDr hG)
          clear hG
          clear hold
          (try simp [depsO, dstAt, oAt, Ko.val, bindE, List.filter_cons, bd_data, bd_chain, bd_guard, bd_phase, bd_text, bd_gc] at hd)
          (first | simp [puts, dsts, Act.put, hd] | simp [puts, dsts, Act.put])
          clear hd
          go_wp2_with fail
          exact ⟨rfl, rfl⟩
        · intro f w4 hG hold hd
          have hS4 := (BL.out.2).trans (chgDr hG)
          clear hG
          clear hold
          (try simp [depsO, dstAt, oAt, Ko.val, bindE, List.filter_cons, bd_data, bd_chain, bd_guard, bd_phase, bd_text, bd_gc] at hd)
          (first | simp [puts, dsts, Act.put, hd] | simp [puts, dsts, Act.put])
          clear hd
          go_wp2_with fail
          exact ⟨rfl, rfl⟩
        · intro f w4 hG hold hd
          have hS4 := (BL.out.2).trans (chgDr hG)
          clear hG
          have k0 := (FX.out) _ hS4
          clear hold
          (try simp [depsO, dstAt, oAt, Ko.val, bindE, List.filter_cons, bd_data, bd_chain, bd_guard, bd_phase, bd_text, bd_gc] at hd)
          (first | simp [puts, dsts, Act.put, hd] | simp [puts, dsts, Act.put])
          clear hd
          go_wp2_with fail
          exact ⟨rfl, rfl⟩
        · intro f w4 hG hold hd
          have hS4 := (BL.out.2).trans (chgDr hG)
          clear hG
          clear hold
          (try simp [depsO, dstAt, oAt, Ko.val, bindE, List.filter_cons, bd_data, bd_chain, bd_guard, bd_phase, bd_text, bd_gc] at hd)
          (first | simp [puts, dsts, Act.put, hd] | simp [puts, dsts, Act.put])
          clear hd
          go_wp2_with fail
          exact ⟨rfl, rfl⟩
        · intro f w4 hG hold hd
          have hS4 := (BL.out.2).trans (chgDr hG)
          clear hG
          clear hold
          (try simp [depsO, dstAt, oAt, Ko.val, bindE, List.filter_cons, bd_data, bd_chain, bd_guard, bd_phase, bd_text, bd_gc] at hd)
          (first | simp [puts, dsts, Act.put, hd] | simp [puts, dsts, Act.put])
          clear hd
          go_wp2_with fail
          exact ⟨rfl, rfl⟩
        · intro f w4 hG hold hd
          have hS4 := (BL.out.2).trans (chgDr hG)
          clear hG
          clear hold
          (try simp [depsO, dstAt, oAt, Ko.val, bindE, List.filter_cons, bd_data, bd_chain, bd_guard, bd_phase, bd_text, bd_gc] at hd)
          (first | simp [puts, dsts, Act.put, hd] | simp [puts, dsts, Act.put])
          clear hd
          go_wp2_with fail
          exact ⟨rfl, rfl⟩
        · intro f w4 hG hold hd
          have hS4 := (BL.out.2).trans (chgDr hG)
          clear hG
          have k1 := (FY.out) _ hS4
          clear hold
          (try simp [depsO, dstAt, oAt, Ko.val, bindE, List.filter_cons, bd_data, bd_chain, bd_guard, bd_phase, bd_text, bd_gc] at hd)
          (first | simp [puts, dsts, Act.put, hd] | simp [puts, dsts, Act.put])
          clear hd
          go_wp2_with fail
          exact ⟨rfl, rfl⟩
        · intro f w4 hG hold hd
          have hS4 := (BL.out.2).trans (chgDr hG)
          clear hG
          have e10 := hold 10 (by kernel_rfl) (by simp [dsts])
          simp at e10
          clear hold
          (try simp [depsO, dstAt, oAt, Ko.val, bindE, List.filter_cons, bd_data, bd_chain, bd_guard, bd_phase, bd_text, bd_gc] at hd)
          (first | simp [puts, dsts, Act.put, hd, e10] | simp [puts, dsts, Act.put, e10])
          clear hd
          clear e10
          go_wp2_with fail
          exact ⟨rfl, rfl⟩
        · intro f w4 hG hI hold hd
          have hS4 := (BL.out.2).trans (chgDr hG)
          clear hG
          clear hold
          have hI : w4 = wr.drew := hI
          subst hI
          (try simp [depsO, dstAt, oAt, Ko.val, bindE, List.filter_cons, bd_data, bd_chain, bd_guard, bd_phase, bd_text, bd_gc] at hd)
          (first | simp [puts, dsts, Act.put, hd] | simp [puts, dsts, Act.put])
          clear hd
          go_wp2_with fail
          have hgr : wr.grownBy wr.drew none := gbD (gbR _ none)
          refine (impladder_c s.2 w2.heap.size w0.heap.size (w2.heap.size + 1) xk yk s.1 wr.drew (BL.out.1.grow hgr) (by have := LN.out; omega) (by have := hgr.size; omega)).mono ?_
          rintro e w6 ⟨rfl, b6⟩
          rw [LN.out]
          have B6 := Lib.hid b6
          clear b6
          go_wp2_with fail
          exact ⟨_, rfl, by first | exact isVal.yes | exact isVal.no, ((BL.out.grow hgr).trans B6.out), (GBT.on hS4 (by omega) B6.out.2)⟩
        · intro f w4 hG hold hd
          have hS4 := (BL.out.2).trans (chgDr hG)
          clear hG
          clear hold
          (try simp [depsO, dstAt, oAt, Ko.val, bindE, List.filter_cons, bd_data, bd_chain, bd_guard, bd_phase, bd_text, bd_gc] at hd)
          (first | simp [puts, dsts, Act.put, hd] | simp [puts, dsts, Act.put])
          clear hd
          go_wp2_with fail
          exact ⟨rfl, rfl⟩
        · intro f w4 hG hold hd
          have hS4 := (BL.out.2).trans (chgDr hG)
          clear hG
          clear hold
          (try simp [depsO, dstAt, oAt, Ko.val, bindE, List.filter_cons, bd_data, bd_chain, bd_guard, bd_phase, bd_text, bd_gc] at hd)
          (first | simp [puts, dsts, Act.put, hd] | simp [puts, dsts, Act.put])
          clear hd
          go_wp2_with fail
          exact ⟨rfl, rfl⟩
        · intro f w4 hG hold hd
          have hS4 := (BL.out.2).trans (chgDr hG)
          clear hG
          clear hold
          (try simp [depsO, dstAt, oAt, Ko.val, bindE, List.filter_cons, bd_data, bd_chain, bd_guard, bd_phase, bd_text, bd_gc] at hd)
          (first | simp [puts, dsts, Act.put, hd] | simp [puts, dsts, Act.put])
          clear hd
          go_wp2_with fail
          exact ⟨rfl, rfl⟩
        · intro f w4 hG hold hd
          have hS4 := (BL.out.2).trans (chgDr hG)
          clear hG
          clear hold
          (try simp [depsO, dstAt, oAt, Ko.val, bindE, List.filter_cons, bd_data, bd_chain, bd_guard, bd_phase, bd_text, bd_gc] at hd)
          (first | simp [puts, dsts, Act.put, hd] | simp [puts, dsts, Act.put])
          clear hd
          go_wp2_with fail
          exact ⟨rfl, rfl⟩
      intro f w8 hG hI hd
      have hS5 := (BL.out.2).trans (chgDr hG)
      clear hG
      simp [knowsO, dstAt, Ko.val] at hd
      simp only [puts, dsts, Act.put, hd, List.filterMap_cons, List.filterMap_nil, List.setIfInBounds_toArray, List.set_cons_zero, List.set_cons_succ]
      clear hd
      have B9 : Hid (Bld 77 w0.heap.size (w2.heap.size + 1) (lessTo p.2 x p.1 (k + 1)).2 w2.heap.size w6 w8) := by rw [HST.out]; exact Lib.hid hI
      have HQ : Hid ((lessTo p.2 x p.1 (k + 1)).1 = (N : Int) + 4) := by rw [HST.out]; exact Lib.hid rfl
      clear hI hS5 BL
      go_wp2_with fail
      go_roundw
      case rel => exact ⟨k + 1, by omega, by go_num, by rw [HQ.out], B9⟩
      case measure => simp [intOf]; omega
    · have hk4 : k = 4 := by omega
      subst hk4
      clear l2 hN hs hst
      go_wp2_with fail
      refine (implgate_c s.2 w2.heap.size w0.heap.size (w2.heap.size + 1) 5 s.1 0 wr BL.out.1 (by have := LN.out; omega) (by omega)).mono ?_
      rintro e w9 ⟨rfl, b9⟩
      rw [LN.out]
      have BB9 := Lib.hid (BB6.out.trans (BL.out.trans b9))
      clear b9
      have R6 := R5.out.gbt BB9.out.2 (by decide) (by decide)
      obtain ⟨A7, n7, c7, B7, m7, d7, hBg, hBr, hV, hG, hO⟩ := BS.fin BB9.out.1 (GBT.base G5.out BB9.out.2) R6 (by omega)
      have hz9 := BB9.out.2.size
      simp only [setCells, Nat.zero_add, Nat.reduceAdd] at hBr hV hG
      have k0 := hBg.cell 0
      have k1 := hBg.cell 1
      have r0 := R6.cell 0
      have r1 := R6.cell 1
      have f0 := R6.frozen 0
      have f1 := R6.frozen 1
      simp at k0 k1 r0 r1
      have HBR := Lib.hid hBr
      have HV7 := Lib.hid hV
      have HG7 := Lib.hid hG
      clear hBg hBr hV hG hO R6
      go_wp2_with fail
      refine ret_ct Try.results12 (by rfl) stCircuit HBR.out rfl (by rfl) ?_
      rw [HM.out, HS.out, LN.out]
      exact ⟨_, rfl, HV7.out, HG7.out⟩
end Go.Proofs.Ythdfkiaoahpjpaa
