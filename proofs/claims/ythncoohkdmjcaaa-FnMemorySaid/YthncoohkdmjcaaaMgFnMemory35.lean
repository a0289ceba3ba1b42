/-
  An access: the reference's filling of one bucket.
-/
import Derived.Test.YthncoohkdmjcaaaMgFnMemory29
namespace Go.Proofs.Ythncoohkdmjcaaa
open Go.RowKit
set_option linter.unusedVariables false
set_option linter.unusedSimpArgs false
set_option maxHeartbeats 4000000 in
set_option maxRecDepth 1000000 in
theorem specl31Fill_c (x0 : World) (H G : Nat) (mj : OM) (k gq cq : Nat) (old : Int) (w : World) (hH : x0.heap.size = H) (hk15 : k < 15) (okj : M3 mj) (O : OSE H G mj w) (G4 : x0.grownBy w none) (P4 : PathO gq cq old w) :
    Calls Try.prog 80 #[.pointer (some ⟨G, 0, none⟩), .int .i64 k] w fun e w' => e = .returned (.tuple #[]) ∧ OSE H G (fill1 mj k) w' ∧ x0.grownBy w' none ∧ PathO gq cq old w' := by
  have OKJ := Lib.hid okj
  have hl15 := okj.nb
  have hN1 := okj.st
  obtain ⟨N, hN⟩ : ∃ N, mj.st.length = N := ⟨_, rfl⟩
  obtain ⟨A0, n0, c0, A1, c1, A2, c2, F0, F1, F2, hOS⟩ := OSE.forms O
  obtain rfl := hOS.nb
  rw [hl15, hN, okj.np] at hOS
  rw [hN] at hN1
  obtain ⟨g0, rfl, hg0⟩ := hOS.top (by omega)
  have LJ0 := Lib.hid (LJ.start (k := k) hOS)
  have HNl := Lib.hid hN
  have G4' := Lib.hid (gbA G4 (.cells #[] 90))
  have P4' := Lib.hid (P4.grow (gbA (gbR w none) (.cells #[] 90)))
  clear okj hN O G4 P4 hOS
  go_enter Try.func80, Try.ntmps80
  go_wp2_with fail
  obtain ⟨gl, hgl⟩ : ∃ gl, w.heap.size = gl := ⟨_, rfl⟩
  obtain ⟨wo, hwo⟩ : ∃ wo : World, w.alloc (.cells #[] 90) = wo := ⟨_, rfl⟩
  rw [hwo] at LJ0 G4' P4' ⊢
  rw [hgl] at LJ0 ⊢
  clear hwo hgl
  have G4 := G4'
  have P4 := P4'
  clear G4' P4'
  go_loopw [5, 4] (fun q L wr => ∃ p : Nat, p ≤ N ∧ q = .int .i64 p ∧ Hid (LJ H G { mj with bk := mj.bk.set k (fS mj k p).1 } (.slice (some ⟨g0, 0, none⟩) 15 c0) (.slice A1 N c1) (.slice A2 12 c2) F1 F2 (fS mj k p).2 L wr) ∧ Hid (x0.grownBy wr none) ∧ Hid (PathO gq cq old wr)) (fun q _ _ => N - (intOf q).toNat)
  case atStart => exact ⟨0, Nat.zero_le _, rfl, LJ0, G4, P4⟩
  case round =>
    clear LJ0 G4 P4
    obtain ⟨p, hp, rfl, hL, hGr, hP⟩ := hrel
    obtain ⟨F0q, hOSq⟩ := hL.out.os
    have b1 := hOSq.blk.cell 1
    simp at b1
    have b1a := fun o => kA b1 o
    clear hOSq
    by_cases hlt2 : p < N
    · have i2 : (p : Int) < (N : Int) := by omega
      obtain ⟨⟨bi, bv⟩, hb⟩ : ∃ b, mj.st[p]? = some b := ⟨_, List.getElem?_eq_getElem (by rw [HNl.out]; exact hlt2)⟩
      obtain ⟨d0, d1⟩ := OKJ.out.ids (bi, bv) (List.mem_append_right _ (List.mem_of_getElem? hb))
      simp only at d0 d1
      obtain ⟨ib, rfl⟩ := Int.eq_ofNat_of_zero_le d0
      have d2 : (ib : Int) < 12 := by omega
      have hle := OKJ.out.fS_le k p
      have hyes := fS_yes hb (k := k)
      have hno := fS_no hb (k := k)
      obtain ⟨x, hx⟩ : ∃ x, (fS mj k p).1 = x := ⟨_, rfl⟩
      obtain ⟨l, hl⟩ : ∃ l, (fS mj k p).2 = l := ⟨_, rfl⟩
      rw [hx, hl] at hL hle hyes hno
      obtain ⟨z, hz⟩ : ∃ z, mj.leaf (ib : Int) = z := ⟨_, rfl⟩
      simp only [hz] at hyes hno
      obtain ⟨F0', hOS⟩ := hL.out.os
      obtain ⟨g1, rfl, hg1, k0, k1, _, _⟩ := hOS.val hb
      obtain ⟨g2, rfl, hg2, kp, fp, _⟩ := hOS.posAt (OKJ.out.leafAt (i := ib) d1)
      rw [hz] at kp
      have hkb : ({ mj with bk := mj.bk.set k x } : OM).bk[k]? = some x := by
        show (mj.bk.set k x)[k]? = some x
        rw [List.getElem?_set_self (by omega)]
      obtain ⟨uk, Fi, cu, fu, ou, hg0i, hg0l, hg0o, hg0G, hFi, step⟩ := hL.out.bucket hkb
      obtain ⟨Ak, ck, rfl, eFi, oRow⟩ := cblocks_form ou
      have b0 := hOS.blk.cell 0
      have b2 := hOS.blk.cell 2
      simp at b0 b2
      have b0a := fun o => kA b0 o
      have b2a := fun o => kA b2 o
      have cua := fun o => kA cu o
      have kpa := fun o => kA kp o
      obtain ⟨AL, cL, rfl, oL⟩ := hL.out.row
      have OL := Lib.hid oL
      have hSub : ∀ y, (Value.slice Ak x.length ck).ownBlock = some y → y ∈ Fi := fun y hy => row_ob ou hy
      have STP := Lib.hid step
      have OU := Lib.hid ou
      have HYES := Lib.hid hyes
      have HNO := Lib.hid hno
      have HOS := Lib.hid hOS
      have OROW := Lib.hid oRow
      have HFI := Lib.hid hFi
      have HSUB := Lib.hid hSub
      have HG0I := Lib.hid hg0i
      have HG0G := Lib.hid hg0G
      have HG0L := Lib.hid hg0l
      have NB := Lib.hid (Blk.new wr 90 #[.int .i64 ib, .int .i64 bv])
      clear oL step ou hyes hno hOS oRow hFi hSub hg0i hg0G hg0l eFi hkb fp hx hl hz hg1 hg2
      by_cases hx2 : x.length < 2
      · have i3 : (x.length : Int) < 2 := by omega
        go_wp2_with fail
        obtain ⟨s9, hs9⟩ : ∃ s, wr.heap.size = s := ⟨_, rfl⟩
        obtain ⟨wq, hwq⟩ : ∃ x : World, wr.alloc (.cells #[.int .i64 ib, .int .i64 bv] 90) = x := ⟨_, rfl⟩
        have A0 : wq.cell? ⟨G, 0, none⟩ = some (.slice (some ⟨g0, 0, none⟩) 15 c0) := by rw [← hwq]; exact kA b0 _
        have A2 : wq.cell? ⟨G, 2, none⟩ = some (.slice (some ⟨g2, 0, none⟩) 12 c2) := by rw [← hwq]; exact kA b2 _
        have AU : wq.cell? ⟨g0, k, none⟩ = some (.slice Ak x.length ck) := by rw [← hwq]; exact kA cu _
        have AP : wq.cell? ⟨g2, ib, none⟩ = some (.int .i64 z) := by rw [← hwq]; exact kA kp _
        have NBq : Hid (Blk wq s9 90 #[.int .i64 ib, .int .i64 bv]) := by rw [← hwq, ← hs9]; exact NB
        have Gq : Hid (wr.grownBy wq none) := by rw [← hwq]; exact Lib.hid (gbA (gbR wr none) _)
        have AB := NBq.out.cell 0
        simp at AB
        have S9 := Lib.hid hs9
        rw [hwq, hs9]
        clear hwq hs9
        obtain ⟨dz, hdz⟩ : ∃ d, decide (k ∈ opath z) = d := ⟨_, rfl⟩
        refine region_grow [isV (.pointer (some ⟨G, 0, none⟩)), isV (.pointer (some ⟨G, 0, none⟩)), isV (.pointer (some ⟨G, 0, none⟩)), isV (.slice (some ⟨g0, 0, none⟩) 15 c0), isV (.int .i64 k), isV (.pointer (some ⟨g0, k, none⟩)), isV (.slice Ak x.length ck), isV (.int .i64 x.length), isV (.bool true), isV (.bool true), isV (.pointer (some ⟨G, 0, none⟩)), isV (.pointer (some ⟨G, 0, none⟩)), isV (.pointer (some ⟨G, 2, none⟩)), isV (.slice (some ⟨g2, 0, none⟩) 12 c2), isV (.pointer (some ⟨s9, 0, none⟩)), isV (.int .i64 ib), isV (.pointer (some ⟨g2, ib, none⟩)), isV (.int .i64 z), isV (.int .i64 k), isV (.bool dz), isV (.bool dz)] (by kernel_rfl) (by kernel_rfl) (by kernel_rfl) (by simp [stables, isV_st]) ?_ ?_
        · simp only [hops, and_true]
          refine ⟨?_, ?_, ?_, ?_, ?_, ?_, ?_, ?_, ?_, ?_, ?_, ?_, ?_, ?_, ?_, ?_, ?_, ?_, ?_, ?_, ?_⟩
          all_goals
            intro f w1 hG hd
            have k0 := gbk (gbT (gbD (gbR _ _)) hG) (A0)
            have k1 := gbk (gbT (gbD (gbR _ _)) hG) (A2)
            have k2 := gbk (gbT (gbD (gbR _ _)) hG) (AU)
            have k3 := gbk (gbT (gbD (gbR _ _)) hG) (AP)
            have k4 := gbk (gbT (gbD (gbR _ _)) hG) (AB)
            simp [deps, tAt, isV] at hd
            first | simp [puts, dsts, Act.put, hd] | simp [puts, dsts, Act.put]
            clear hd
            go_wp2_with ((go_at_call 70; refine (sHolds_c k z _).mono ?_; rintro e w6 ⟨rfl, hw⟩; rw [hdz]))
          all_goals exact ⟨_, rfl, by first | with_reducible exact gbR _ _ | exact hw, by first | (simp [tAt, isV]; done) | (simp [tAt, isV]; assumption)⟩
        intro f w5 hG hd
        simp [knows, tAt, isV] at hd
        obtain ⟨h0_, h1_, h2_, h3_, h4_, h5_, h6_, h7_, h8_, h9_, h10_, h11_, h12_, h13_, h14_, h15_, h16_, h17_, h18_, h19_, h20_⟩ := hd
        simp only [puts, dsts, Act.put, h0_, h1_, h2_, h3_, h4_, h5_, h6_, h7_, h8_, h9_, h10_, h11_, h12_, h13_, h14_, h15_, h16_, h17_, h18_, h19_, h20_, List.filterMap_cons, List.filterMap_nil, List.setIfInBounds_toArray, List.set_cons_zero, List.set_cons_succ]
        clear h0_ h1_ h2_ h3_ h4_ h5_ h6_ h7_ h8_ h9_ h10_ h11_ h12_ h13_ h14_ h15_ h16_ h17_ h18_ h19_ h20_
        have g5 := gbT (gbD (gbR _ none)) hG
        clear hG
        have GG := Lib.hid (gbT Gq.out g5)
        have NB5 := Lib.hid (NBq.out.grow g5)
        clear g5
        by_cases hzk : k ∈ opath z
        · obtain rfl : dz = true := by rw [← hdz]; simpa using hzk
          clear hdz
          go_wp2_with fail
          have HB := Lib.hid HOS.out.blk
          have B5 := Lib.hid (HOS.out.blk.grow (gbT GG.out (gbD (gbR w5 none))))
          have SG : ∀ y, (Value.slice Ak x.length ck).ownBlock = some y → y ≠ G := fun y hy => (HFI.out y (HSUB.out y hy)).2
          have S0 : ∀ y, (Value.slice Ak x.length ck).ownBlock = some y → y ≠ g0 := fun y hy e => HG0I.out (by rw [← e]; exact HSUB.out y hy)
          have CU := Lib.hid (gbk (gbT GG.out (gbD (gbR w5 none))) cu)
          have FU := Lib.hid ((gbFrozen (gbT GG.out (gbD (gbR w5 none))) (p := ⟨g0, k, none⟩) HG0L.out (by simp)).trans fu)
          have LT0 := Lib.hid (show g0 < w5.drew.heap.size by have := HG0I.out; have := GG.out.size; have := HG0L.out; simp; omega)
          have Z5 := Lib.hid GG.out.size
          have LTS : ∀ y, (Value.slice Ak x.length ck).ownBlock = some y → y < wr.heap.size := fun y hy => CS.lt _ OU.out y (HSUB.out y hy)
          have ROW5 := Lib.hid (own_grow OROW.out (gbT GG.out (gbD (gbR w5 none))))
          have NB6 := Lib.hid (NB5.out.grow (gbD (gbR w5 none)))
          clear b0a b1a b2a cua kpa b0 b1 b2 cu kp k0 k1
          refine region_chain [.rd (.pointer (some ⟨G, 0, none⟩)), .rd (.pointer (some ⟨G, 0, none⟩)), .rd (.pointer (some ⟨G, 0, none⟩)), .rd (.slice (some ⟨g0, 0, none⟩) 15 c0), .rd (.int .i64 k), .rd (.pointer (some ⟨G, 0, none⟩)), .rd (.pointer (some ⟨G, 0, none⟩)), .rd (.pointer (some ⟨G, 0, none⟩)), .rd (.slice (some ⟨g0, 0, none⟩) 15 c0), .rd (.int .i64 k), .rd (.pointer (some ⟨g0, k, none⟩)), .rd (.slice Ak x.length ck), .rd (.agg #[.int .i64 ib, .int .i64 bv]), .fl (lit1N w5.heap.size 90 #[.int .i64 ib, .int .i64 bv]), .ch, .rd (.pointer (some ⟨g0, k, none⟩)), .ch] (fun y => (Value.slice Ak x.length ck).ownBlock = some y)
            [⟨[], fun _ w' => w5.drew.grownBy w' none⟩,
             ⟨[59], fun l w' => Chg (fun y => (Value.slice Ak x.length ck).ownBlock = some y) w5.drew w' ∧ ∃ F, (cblocks (x ++ [((ib : Int), bv)])).own w' F (l.getD 0 undef) ∧ ∀ y ∈ F, y ∈ Fi ∨ w5.heap.size ≤ y⟩,
             ⟨[], fun _ w' => x0.grownBy w' none ∧ PathO gq cq old w' ∧ LJ H G { mj with bk := mj.bk.set k (x ++ [((ib : Int), bv)]) } (.slice (some ⟨g0, 0, none⟩) 15 c0) (.slice (some ⟨g1, 0, none⟩) N c1) (.slice (some ⟨g2, 0, none⟩) 12 c2) F1 F2 l (.slice AL l.length cL) w'⟩]
            (by kernel_rfl) (by kernel_rfl) (by kernel_rfl) 2 (by kernel_rfl) ?_ (gbR _ _) rfl ?_ ?_
          · simp only [flOk, true_and, and_true]
            refine ⟨lit1N_st, stF_cons (fun l w1 w2 h hg => gbT h hg) (stF_cons ?_ (stF_cons ?_ stF_nil))⟩
            · rintro l w1 w2 ⟨a1, F, a2, a3⟩ hg
              exact ⟨a1.trans (Chg.of hg (by simp)), F, own_growK _ a2 hg, a3⟩
            · rintro l w1 w2 ⟨a1, a2, a3⟩ hg
              exact ⟨gbT a1 hg, a2.grow hg, a3.grow hg⟩
          · simp only [hopsK, hopK, Kd.next, and_true]
            refine ⟨?_, ?_, ?_, ?_, ?_, ?_, ?_, ?_, ?_, ?_, ?_, ?_, ?_, ?_, ?_, ?_, ?_⟩
            · (intro f w4 hG hd; (try simp [depsC, dstAt, kAt, bindE, List.filter_cons, bd_data, bd_chain, bd_guard, bd_phase, bd_text, bd_gc] at hd); (first | simp [puts, dsts, Act.put, hd] | simp [puts, dsts, Act.put]); go_wp2_with fail; exact ⟨rfl, rfl⟩)
            · (intro f w4 hG hd; (try simp [depsC, dstAt, kAt, bindE, List.filter_cons, bd_data, bd_chain, bd_guard, bd_phase, bd_text, bd_gc] at hd); (first | simp [puts, dsts, Act.put, hd] | simp [puts, dsts, Act.put]); go_wp2_with fail; exact ⟨rfl, rfl⟩)
            · (intro f w4 hG hd; (try simp [depsC, dstAt, kAt, bindE, List.filter_cons, bd_data, bd_chain, bd_guard, bd_phase, bd_text, bd_gc] at hd); (first | simp [puts, dsts, Act.put, hd] | simp [puts, dsts, Act.put]); go_wp2_with fail; exact ⟨rfl, rfl⟩)
            · intro f w4 hG hd
              (try simp [depsC, dstAt, kAt, bindE, List.filter_cons, bd_data, bd_chain, bd_guard, bd_phase, bd_text, bd_gc] at hd)
              have B4 := B5.out.chg hG (fun e => SG _ e rfl)
              have b0 := B4.cell 0
              simp at b0
              (first | simp [puts, dsts, Act.put, hd] | simp [puts, dsts, Act.put])
              go_wp2_with fail
              exact ⟨rfl, rfl⟩
            · (intro f w4 hG hd; (try simp [depsC, dstAt, kAt, bindE, List.filter_cons, bd_data, bd_chain, bd_guard, bd_phase, bd_text, bd_gc] at hd); (first | simp [puts, dsts, Act.put, hd] | simp [puts, dsts, Act.put]); go_wp2_with fail; exact ⟨rfl, rfl⟩)
            · (intro f w4 hG hd; (try simp [depsC, dstAt, kAt, bindE, List.filter_cons, bd_data, bd_chain, bd_guard, bd_phase, bd_text, bd_gc] at hd); (first | simp [puts, dsts, Act.put, hd] | simp [puts, dsts, Act.put]); go_wp2_with fail; exact ⟨rfl, rfl⟩)
            · (intro f w4 hG hd; (try simp [depsC, dstAt, kAt, bindE, List.filter_cons, bd_data, bd_chain, bd_guard, bd_phase, bd_text, bd_gc] at hd); (first | simp [puts, dsts, Act.put, hd] | simp [puts, dsts, Act.put]); go_wp2_with fail; exact ⟨rfl, rfl⟩)
            · (intro f w4 hG hd; (try simp [depsC, dstAt, kAt, bindE, List.filter_cons, bd_data, bd_chain, bd_guard, bd_phase, bd_text, bd_gc] at hd); (first | simp [puts, dsts, Act.put, hd] | simp [puts, dsts, Act.put]); go_wp2_with fail; exact ⟨rfl, rfl⟩)
            · intro f w4 hG hd
              (try simp [depsC, dstAt, kAt, bindE, List.filter_cons, bd_data, bd_chain, bd_guard, bd_phase, bd_text, bd_gc] at hd)
              have B4 := B5.out.chg hG (fun e => SG _ e rfl)
              have b0 := B4.cell 0
              simp at b0
              (first | simp [puts, dsts, Act.put, hd] | simp [puts, dsts, Act.put])
              go_wp2_with fail
              exact ⟨rfl, rfl⟩
            · (intro f w4 hG hd; (try simp [depsC, dstAt, kAt, bindE, List.filter_cons, bd_data, bd_chain, bd_guard, bd_phase, bd_text, bd_gc] at hd); (first | simp [puts, dsts, Act.put, hd] | simp [puts, dsts, Act.put]); go_wp2_with fail; exact ⟨rfl, rfl⟩)
            · intro f w4 hG hd
              (try simp [depsC, dstAt, kAt, bindE, List.filter_cons, bd_data, bd_chain, bd_guard, bd_phase, bd_text, bd_gc] at hd)
              (first | simp [puts, dsts, Act.put, hd] | simp [puts, dsts, Act.put])
              go_wp2_with fail
              exact ⟨rfl, rfl⟩
            · intro f w4 hG hd
              (try simp [depsC, dstAt, kAt, bindE, List.filter_cons, bd_data, bd_chain, bd_guard, bd_phase, bd_text, bd_gc] at hd)
              have c4 : w4.cell? ⟨g0, k, none⟩ = some (.slice Ak x.length ck) := hG.cell CU.out LT0.out (fun e => S0 _ e rfl)
              (first | simp [puts, dsts, Act.put, hd] | simp [puts, dsts, Act.put])
              go_wp2_with fail
              exact ⟨rfl, rfl⟩
            · intro f w4 hG hd
              clear hd
              have N4 := NB6.out.chg hG (fun e => by have := LTS _ e; have := S9.out; omega)
              have n0 := N4.cell 0
              have n1 := N4.cell 1
              simp at n0 n1
              simp [puts, dsts, Act.put]
              go_wp2_with fail
              exact ⟨rfl, rfl⟩
            · intro f w4 hG hd
              (try simp [depsC, dstAt, kAt, bindE, List.filter_cons, bd_data, bd_chain, bd_guard, bd_phase, bd_text, bd_gc] at hd)
              (first | simp [puts, dsts, Act.put, hd] | simp [puts, dsts, Act.put])
              go_wp2_with fail
              exact ⟨_, rfl, ⟨_, rfl, by have := hG.size; simp at this; omega, Blk.new w4 _ _⟩, gbA (gbR _ _) _⟩
            · intro f w4 hG hI hd
              have hI : w5.drew.grownBy w4 none := hI
              (try simp [depsC, dstAt, kAt, bindE, List.filter_cons, bd_data, bd_chain, bd_guard, bd_phase, bd_text, bd_gc] at hd)
              obtain ⟨e56, g9, e58, hg9, B9⟩ := hd
              simp [puts, dsts, Act.put, e56, e58]
              have n0 := B9.cell 0
              have n1 := B9.cell 1
              simp at n0 n1
              refine wp_appendA w4 elBlock rfl (.tmp 56) (.tmp 58) rfl 0 _ _ _ (own_grow ROW5.out hI) rfl ⟨g9, 0, none⟩ 1 1 [.int .i64 ib, .int .i64 bv] rfl rfl ?_ (by simp [Value.oneCell']) (by unfold maxLen; omega) (by omega) (Nat.zero_le _) ?_
              · intro j u hu
                have hadd : (⟨g9, 0, none⟩ : Addr).add j = ⟨g9, j, none⟩ := by unfold Addr.add; split <;> simp_all
                rw [hadd]
                match j, hu with
                | 0, hu => simp at hu; rw [n0, hu]
                | 1, hu => simp at hu; rw [n1, hu]
                | j + 2, hu => simp at hu
              intro v' w6 o8 g8 k8
              have o8' := cblocks_push (w := wr) (b := ((ib : Int), bv)) o8
              obtain ⟨A9, c9, hv9, e9, _⟩ := cblocks_form o8'
              rw [show (x ++ [((ib : Int), bv)]).length = x.length + 1 by simp] at hv9
              subst hv9
              go_wp2_with fail
              refine ⟨_, rfl, ⟨(Chg.of hI (by simp)).trans (Chg.of g8 fun g h => h), _, o8', fun y hy => ?_⟩, ⟨Chg.of g8 (fun g h => h), ?_⟩⟩
              · rcases k8 y (by simpa using hy) with h1 | h1
                · exact .inl (HSUB.out y h1.symm)
                · exact .inr (by have := hI.size; simp at this; omega)
              · simp [keepsC, dstAt]
                intro h
                obtain ⟨g', e1, h1, h2⟩ := h
                refine ⟨g', e1, h1, h2.grown g8 (fun e => ?_)⟩
                have := LTS g' e.symm
                have := Z5.out
                omega
            · intro f w4 hG hd
              (try simp [depsC, dstAt, kAt, bindE, List.filter_cons, bd_data, bd_chain, bd_guard, bd_phase, bd_text, bd_gc] at hd)
              (first | simp [puts, dsts, Act.put, hd] | simp [puts, dsts, Act.put])
              go_wp2_with fail
              exact ⟨rfl, rfl⟩
            · intro f w6 hG hI hd
              obtain ⟨hch, F, o6, l6⟩ := hI
              have o6 : (cblocks (x ++ [((ib : Int), bv)])).own w6 F (f 59) := o6
              obtain ⟨B, n', s', e59⟩ := row_form o6
              (try simp [depsC, dstAt, kAt, bindE, List.filter_cons, bd_data, bd_chain, bd_guard, bd_phase, bd_text, bd_gc] at hd)
              rw [e59] at o6
              have c6 : w6.cell? ⟨g0, k, none⟩ = some (.slice Ak x.length ck) := hch.cell CU.out LT0.out (fun e => S0 _ e rfl)
              simp [puts, dsts, Act.put, hd, e59]
              have f6 : w6.frozen? ⟨g0, k, none⟩ = false := hch.frozen FU.out LT0.out (fun e => S0 _ e rfl)
              have hchr : Chg (fun y => y ∈ Fi) wr w6 := ((Chg.of (gbT GG.out (gbD (gbR w5 none))) (by simp)).trans hch).mono (fun y hy => HSUB.out y hy)
              have h7 := STP.out w6 _ _ F hchr o6 (fun y hy => by
                rcases l6 y hy with h3 | h3
                · exact .inl h3
                · exact .inr (by have := Z5.out; omega))
              rw [show ({ mj with bk := (mj.bk.set k x).set k (x ++ [((ib : Int), bv)]) } : OM) = { mj with bk := mj.bk.set k (x ++ [((ib : Int), bv)]) } by rw [List.set_set]] at h7
              have G7 := gbChg (gbChg hGr.out hchr (fun y hy => by have := (HFI.out y hy).1; omega)) (chgS w6 g0 k (.slice B n' s')) (fun y hy => by rw [hy]; have := hg0o; omega)
              have P7 := (hP.out.chg hchr (fun y hy => hP.out.ne_blocks OU.out hy)).chg (chgS w6 g0 k (.slice B n' s')) (fun y hy => by rw [hy]; exact hL.out.path0 hP.out)
              go_wp2_with fail
              exact ⟨rfl, .bool false, G7, P7, h7⟩
          · intro f w6 hI hd
            obtain ⟨G7, P7, L7⟩ := hI
            simp [knowsC, dstAt] at hd
            have L7 : Hid (LJ H G { mj with bk := mj.bk.set k (fS mj k (p + 1)).1 } (.slice (some ⟨g0, 0, none⟩) 15 c0) (.slice (some ⟨g1, 0, none⟩) N c1) (.slice (some ⟨g2, 0, none⟩) 12 c2) F1 F2 (fS mj k (p + 1)).2 (.slice AL l.length cL) w6) := by rw [HYES.out hx2 hzk]; exact Lib.hid L7
            have G7 := Lib.hid G7
            have P7 := Lib.hid P7
            clear hd
            simp only [puts, dsts, Act.put, List.filterMap_cons, List.filterMap_nil, List.setIfInBounds_toArray, List.set_cons_zero, List.set_cons_succ]
            go_wp2_with fail
            go_roundw
            case rel => exact ⟨p + 1, by omega, by go_num, L7, G7, P7⟩
            case measure => simp [intOf]; omega
        · obtain rfl : dz = false := by rw [← hdz]; simpa using hzk
          clear hdz A0 A2 AU AP AB b0a b2a cua kpa b0 b2 cu kp k0 k1 b1a
          have nb0 := NB5.out.cell 0
          have nb1 := NB5.out.cell 1
          simp at nb0 nb1
          have hNot : ¬ (x.length < 2 ∧ k ∈ opath z) := fun h => hzk h.2
          have OW := Lib.hid (own_grow OL.out GG.out)
          go_wp2_with (at_builtin; (refine wp_appendG w5 w5.heap.size rfl elBlock rfl (.tmp 61) (.tmp 63) rfl #[.int .i64 ib, .int .i64 bv] rfl (by simp [Value.oneCell']) 0 _ _ _ OW.out rfl rfl (by unfold maxLen; omega) (by omega) (Nat.zero_le _) ?_); intro v' w6 o7 g7 k7)
          have o7' := cblocks_push (w := wr) (b := ((ib : Int), bv)) o7
          obtain ⟨A9, c9, rfl, e9, _⟩ := cblocks_form o7'
          have hch : Chg (fun y => (Value.slice AL l.length cL).ownBlock = some y) wr w6 := (Chg.of (gbA GG.out _) (by simp)).trans (Chg.of g7 fun g h => h)
          have h7 := hL.out.left hch o7' (fun y hy => by
            rcases k7 y (by simpa using hy) with h3 | h3
            · exact .inl h3.symm
            · exact .inr (by have := GG.out.size; omega))
          have L7 : Hid (LJ H G { mj with bk := mj.bk.set k (fS mj k (p + 1)).1 } (.slice (some ⟨g0, 0, none⟩) 15 c0) (.slice (some ⟨g1, 0, none⟩) N c1) (.slice (some ⟨g2, 0, none⟩) 12 c2) F1 F2 (fS mj k (p + 1)).2 (.slice A9 (l ++ [((ib : Int), bv)]).length c9) w6) := by rw [HNO.out hNot]; exact Lib.hid h7
          have G7 := Lib.hid (gbChg hGr.out hch (fun y hy => by have := (hL.out.lt hy).1; omega))
          have P7 := Lib.hid (hP.out.chg hch (fun y hy => hL.out.pathL hP.out hy))
          clear h7 hch o7' e9 k7 g7

          go_wp2_with fail
          go_roundw
          case rel => exact ⟨p + 1, by omega, by go_num, L7, G7, P7⟩
          case measure => simp [intOf]; omega
      · have i3 : ¬ (x.length : Int) < 2 := by omega
        have hNot : ¬ (x.length < 2 ∧ k ∈ opath z) := fun h => hx2 h.1
        have d3 : decide ((x.length : Int) < 2) = false := by simp; omega
        go_wp2_with fail
        go_quiet (fail)
        obtain ⟨w5, hw5⟩ : ∃ x : World, (wr.alloc (.cells #[.int .i64 ib, .int .i64 bv] 90)).drewN nq = x := ⟨_, rfl⟩
        have GG : Hid (wr.grownBy w5 none) := by rw [← hw5]; exact Lib.hid (gbDN (gbA (gbR wr none) _) nq)
        have NB5 : Hid (Blk w5 wr.heap.size 90 #[.int .i64 ib, .int .i64 bv]) := by rw [← hw5]; exact Lib.hid (NB.out.grow (gbDN (gbR _ none) nq))
        rw [hw5]
        clear hw5 b0a b2a cua kpa b0 b2 cu kp k0 k1 b1a
        have nb0 := NB5.out.cell 0
        have nb1 := NB5.out.cell 1
        simp at nb0 nb1
        have OW := Lib.hid (own_grow OL.out GG.out)
        go_wp2_with (at_builtin; (refine wp_appendG w5 w5.heap.size rfl elBlock rfl (.tmp 61) (.tmp 63) rfl #[.int .i64 ib, .int .i64 bv] rfl (by simp [Value.oneCell']) 0 _ _ _ OW.out rfl rfl (by unfold maxLen; omega) (by omega) (Nat.zero_le _) ?_); intro v' w6 o7 g7 k7)
        have o7' := cblocks_push (w := wr) (b := ((ib : Int), bv)) o7
        obtain ⟨A9, c9, rfl, e9, _⟩ := cblocks_form o7'
        have hch : Chg (fun y => (Value.slice AL l.length cL).ownBlock = some y) wr w6 := (Chg.of (gbA GG.out _) (by simp)).trans (Chg.of g7 fun g h => h)
        have h7 := hL.out.left hch o7' (fun y hy => by
          rcases k7 y (by simpa using hy) with h3 | h3
          · exact .inl h3.symm
          · exact .inr (by have := GG.out.size; omega))
        have L7 : Hid (LJ H G { mj with bk := mj.bk.set k (fS mj k (p + 1)).1 } (.slice (some ⟨g0, 0, none⟩) 15 c0) (.slice (some ⟨g1, 0, none⟩) N c1) (.slice (some ⟨g2, 0, none⟩) 12 c2) F1 F2 (fS mj k (p + 1)).2 (.slice A9 (l ++ [((ib : Int), bv)]).length c9) w6) := by rw [HNO.out hNot]; exact Lib.hid h7
        have G7 := Lib.hid (gbChg hGr.out hch (fun y hy => by have := (hL.out.lt hy).1; omega))
        have P7 := Lib.hid (hP.out.chg hch (fun y hy => hL.out.pathL hP.out hy))
        clear h7 hch o7' e9 k7 g7

        go_wp2_with fail
        go_roundw
        case rel => exact ⟨p + 1, by omega, by go_num, L7, G7, P7⟩
        case measure => simp [intOf]; omega
    · have hpN : p = N := by omega
      subst hpN
      obtain ⟨AL, cL, rfl, oL⟩ := hL.out.row
      have h7 := hL.out.done
      have e7 : ({ mj with bk := mj.bk.set k (fS mj k p).1, st := (fS mj k p).2 } : OM) = fill1 mj k := fS_end HNl.out.symm
      rw [e7] at h7
      obtain ⟨F0', hOS⟩ := hL.out.os
      have O7 := Lib.hid h7
      have G7 := Lib.hid (gbChg hGr.out (chgS wr G 1 (.slice AL (fS mj k p).2.length cL)) (fun y hy => by rw [hy, hH]; exact hOS.lg))
      have P7 := Lib.hid (hP.out.chg (chgS wr G 1 (.slice AL (fS mj k p).2.length cL)) (fun y hy => by rw [hy]; exact hL.out.pathG hP.out))
      have f1 := hOS.blk.frozen 1
      clear hOS h7 e7 oL
      go_wp2_with fail
      (try simp only [Exit.inBlock, Exit.then])
      refine bodyPost_end (results_none rfl _ _ _) rfl ?_
      exact ⟨rfl, O7.out, G7.out, P7.out⟩
end Go.Proofs.Ythncoohkdmjcaaa
