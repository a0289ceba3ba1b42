/-
  FnRoom: the walk.
-/
import Derived.Test.YthncoohkdmjcaaaMgFnRoom44
import Derived.Test.YthncoohkdmjcaaaMgFnRoom28
namespace Go.Proofs.Ythncoohkdmjcaaa
open Go.RowKit
set_option linter.unusedVariables false
set_option linter.unusedSimpArgs false
theorem osizes_room {m : OM} (hm : OOk m) {j : Nat} (hj : j < 15) : ∃ x, (osizes m)[j]? = some x ∧ 0 ≤ x ∧ x ≤ 2 := by
  have hl : j < m.bk.length := by rw [hm.nb]; omega
  refine ⟨(m.bk[j].length : Int), ?_, by omega, by have := hm.room _ (List.getElem_mem hl); omega⟩
  unfold osizes osz
  rw [List.take_length, List.getElem?_append_left (by simpa using hl), List.getElem?_map, List.getElem?_eq_getElem hl]
  rfl
set_option maxHeartbeats 4000000 in
set_option maxRecDepth 1000000 in
theorem FnRoom.walk (w : World) (A : Option Addr) (n c : Nat) (zs : List Int) (hz : IntsK .u8 w A n zs) (hm : n ≤ maxLen) :
    Calls Try.prog 10 #[.slice A n c] w fun e w' => e = .returned (.bool true) ∧ w.grownBy w' none := by
  unfold maxLen at hm
  by_cases hbig : 1048576 < n
  · have hd : decide (1048576 < n) = true := by simp; omega
    go_enter Try.func10, Try.ntmps10
    go_wp2_with fail
    refine (big_c _ A n c (by omega)).mono ?_
    rintro e w1 ⟨rfl, rfl⟩
    go_wp2_with fail
    go_ret
    exact ⟨rfl, gbR _ _⟩
  · have hd : decide (1048576 < n) = false := by simp; omega
    have H := Lib.hid (bytesIn hz (by omega))
    clear hz
    go_enter Try.func10, Try.ntmps10
    go_wp2_with fail
    refine (big_c _ A n c (by omega)).mono ?_
    rintro e w1 ⟨rfl, rfl⟩
    rw [hd]
    clear hd hbig hm
    go_wp2_with fail
    refine (DrawOram_c _ A n c zs H.out).mono ?_
    rintro e w1 ⟨V, m, F, rfl, hm, ha, hl, hg1⟩
    obtain ⟨A0, n0, c0, A1, n1, c1, A2, n2, c2, rfl⟩ := coram_oform ha
    have HM := Lib.hid hm
    obtain ⟨gO, hgO⟩ : ∃ x, w1.heap.size = x := ⟨_, rfl⟩
    obtain ⟨w2, hw2⟩ : ∃ x : World, w1.alloc (.cells #[.slice A0 n0 c0, .slice A1 n1 c1, .slice A2 n2 c2] 36) = x := ⟨_, rfl⟩
    have HA : Hid (AggO w2 (coram m) F (.agg #[.slice A0 n0 c0, .slice A1 n1 c1, .slice A2 n2 c2])) := by rw [← hw2]; exact Lib.hid (ha.grow (gbA (gbR _ _) _))
    have BO : Hid (Blk w2 gO 36 #[.slice A0 n0 c0, .slice A1 n1 c1, .slice A2 n2 c2]) := by rw [← hw2, ← hgO]; exact Lib.hid (Blk.new _ _ _)
    have G2 : Hid (w.grownBy w2 none) := by rw [← hw2]; exact Lib.hid (gbA hg1 _)
    clear ha hl hg1 hm
    go_wp2_with fail
    try rw [hw2]
    try rw [hgO]
    clear hw2 hgO
    refine (DrawPlaces_c _ A n c zs (H.out.grow G2.out)).mono ?_
    rintro e w3 ⟨v, qs, rfl, hown, hq, hg⟩
    obtain ⟨B, d, rfl, _, _⟩ := own_form hown
    have HI := Lib.hid (show Ints w3 B 12 qs from Rd.ofOwn hown)
    have HQ := Lib.hid hq
    have HA3 := Lib.hid (HA.out.grow hg)
    have BO3 := Lib.hid (BO.out.grow hg)
    have G3 := Lib.hid (gbT G2.out hg)
    obtain ⟨qb, qo, rfl, hqb, hqc⟩ := HI.out.at_ (by omega)
    have HQC := Lib.hid hqc
    clear hown hq hg HA BO G2 H hqc
    have c0 := HQC.out 0 (by omega)
    have c1 := HQC.out 1 (by omega)
    have c2' := HQC.out 2 (by omega)
    rw [Nat.add_zero] at c0
    have p0 := HQ.out.at_ 0 (by omega)
    obtain ⟨q0, hq0⟩ : ∃ q, qs.getD 0 0 = q := ⟨_, rfl⟩
    obtain ⟨q1, hq1⟩ : ∃ q, qs.getD 1 0 = q := ⟨_, rfl⟩
    obtain ⟨q2, hq2⟩ : ∃ q, qs.getD 2 0 = q := ⟨_, rfl⟩
    have p1 := HQ.out.at_ 1 (by omega)
    have p2 := HQ.out.at_ 2 (by omega)
    rw [hq0] at c0 p0
    rw [hq1] at c1 p1
    rw [hq2] at c2' p2
    have C1 := Lib.hid c1
    have C2 := Lib.hid c2'
    clear c1 c2' hq0 hq1 hq2
    go_wp2_with fail
    have r0 := Int.emod_nonneg q0 (b := 12) (by omega)
    have r0' := Int.emod_lt_of_pos q0 (b := 12) (by omega)
    have r1 := Int.emod_nonneg q1 (b := 8) (by omega)
    have r1' := Int.emod_lt_of_pos q1 (b := 8) (by omega)
    have r2 := Int.emod_nonneg q2 (b := 8) (by omega)
    have r2' := Int.emod_lt_of_pos q2 (b := 8) (by omega)
    have ii : 0 ≤ q0 % 12 ∧ q0 % 12 ≤ 11 := by omega
    have ra : 0 ≤ q1 % 8 ∧ q1 % 8 ≤ 7 := by omega
    have rb : 0 ≤ q2 % 8 ∧ q2 % 8 ≤ 7 := by omega
    clear c0
    obtain ⟨z, hz⟩ : ∃ z, q0 % 12 = z := ⟨_, rfl⟩
    rw [hz] at ii ⊢
    clear r0 r0' r1 r1' r2 r2' hz
    refine region_reg6 [onT 27 (isV (.agg #[.slice A0 n0 c0, .slice A1 n1 c1, .slice A2 n2 c2])), onT 28 (isV (.int .i64 z)), onT 29 (isV (.slice (some ⟨qb, qo, none⟩) 12 d)), onT 30 (isV (.pointer (some ⟨qb, qo + 1, none⟩))), onT 31 (isV (.int .i64 q1)), onT 32 (isV (.int .i64 (q1 % 8))), onT 33 (tupF w3.heap.size (acc m z false 0 (q1 % 8)) (accV m z) (m.leaf z) true), onT 26 (tupF w3.heap.size (acc m z false 0 (q1 % 8)) (accV m z) (m.leaf z) true), onT 34 (memF w3.heap.size (acc m z false 0 (q1 % 8))), onT 35 (isV (.int .i64 (accV m z))), onT 36 (isV (.int .i64 (m.leaf z))), onT 37 (isV (.bool true)), onT 6 (ptAny w3.heap.size), onT 6 (ptM w3.heap.size (acc m z false 0 (q1 % 8))), onT 7 (isV (.int .i64 (accV m z))), onT 8 (isV (.int .i64 (m.leaf z))), onT 9 (isV (.bool true))] [] (by kernel_rfl) (by kernel_rfl) (by kernel_rfl) (by simp [stablesF, stableF_on, isV_st, tupF_st, memF_st, ptAny_st, ptM_st]) ?_ ?_
    · simp only [hops6, and_true]
      refine ⟨?_, ?_, ?_, ?_, ?_, ?_, ?_, ?_, ?_, ?_, ?_, ?_, ?_, ?_, ?_, ?_, ?_⟩
      rotate_left 6
      · intro f w4 hG pre old hd
        have hg4 := gbT (gbD (gbR w3 none)) (chgNil hG)
        have hs4 := hg4.size
        simp [depsF, bindE, List.filter_cons, bd_data, bd_chain, bd_guard, bd_phase, bd_text, bd_gc, fAt, onT_at, isV] at hd
        simp [puts, dsts, Act.put, hd]
        clear hd
        go_wp2_with fail
        refine (implOramAccess_ok m HM.out _ z 0 (q1 % 8) false w4 ii (by omega) ra (AggO.rd (HA3.out.grow hg4))).mono ?_
        rintro e w5 ⟨V, F, rfl, h1, h2, hw⟩
        have HT : Hid (memF w3.heap.size (acc m z false 0 (q1 % 8)) V w5) := Lib.hid ⟨F, h1, fun y hy => Nat.le_trans hs4 (h2 y hy)⟩
        clear h1 h2
        go_wp2_with fail
        exact ⟨_, rfl, ⟨V, rfl, HT.out⟩, Or.inl hw⟩
      · intro f w4 hG pre old hd
        simp [depsF, bindE, List.filter_cons, bd_data, bd_chain, bd_guard, bd_phase, bd_text, bd_gc, fAt, onT_at, isV] at hd
        obtain ⟨V, eV, hm⟩ := hd
        have HT := Lib.hid hm
        clear hm
        simp [puts, dsts, Act.put, eV]
        go_wp2_with fail
        exact ⟨_, rfl, ⟨V, rfl, HT.out⟩, Or.inl (gbR _ _)⟩
      · intro f w4 hG pre old hd
        simp [depsF, bindE, List.filter_cons, bd_data, bd_chain, bd_guard, bd_phase, bd_text, bd_gc, fAt, onT_at, isV] at hd
        obtain ⟨V, eV, hm⟩ := hd
        have HT := Lib.hid hm
        clear hm
        simp [puts, dsts, Act.put, eV]
        go_wp2_with fail
        exact ⟨_, rfl, HT.out, Or.inl (gbR _ _)⟩
      rotate_left 3
      · intro f w4 hG pre old hd
        have hg4 := gbT (gbD (gbR w3 none)) (chgNil hG)
        have hs4 := hg4.size
        clear hd
        simp [puts, dsts, Act.put]
        go_wp2_with fail
        exact ⟨_, rfl, ⟨_, rfl, hs4, _, _, _, Blk.new w4 _ _⟩, Or.inl (gbA (gbR _ _) _)⟩
      · intro f w4 hG pre old hd
        have hg4 := gbT (gbD (gbR w3 none)) (chgNil hG)
        simp [depsF, bindE, List.filter_cons, bd_data, bd_chain, bd_guard, bd_phase, bd_text, bd_gc, fAt, onT_at, isV] at hd
        obtain ⟨⟨g, eg, hlg, ca, cb, cc, B4⟩, ⟨F, ha, hl⟩, _⟩ := hd
        obtain ⟨B0, p0, s0', B1, p1, s1', B2, p2, s2', e0⟩ := coram_oform ha
        have hn := agg_ne ha B4
        have hOS : OSE w3.heap.size g (acc m z false 0 (q1 % 8)) (((w4.setCell ⟨g, 0, none⟩ (.slice B0 p0 s0')).setCell ⟨g, 1, none⟩ (.slice B1 p1 s1')).setCell ⟨g, 2, none⟩ (.slice B2 p2 s2')) := by
          rw [e0] at ha
          exact OS.made (cs := #[]) (fill3 B4 rfl _ _ _) (ha.chg (chgS3 w4 g _ _ _) (fun y hy e => hn (e ▸ hy))) hl hlg hn
        have hch := (chgS3 w4 g (.slice B0 p0 s0') (.slice B1 p1 s1') (.slice B2 p2 s2')).mono (T := fun b => w3.heap.size ≤ b) (fun y hy => by omega)
        have HO := Lib.hid hOS
        have HB4 := Lib.hid B4
        have b0 := B4.cell 0
        have b1 := B4.cell 1
        have b2 := B4.cell 2
        have f0 := B4.frozen 0
        have f1 := B4.frozen 1
        have f2 := B4.frozen 2
        simp at b0 b1 b2
        clear ha hl hn hOS B4
        simp [puts, dsts, Act.put, eg, e0]
        go_wp2_with fail
        refine ⟨rfl, ⟨.bool false, g, eg, HO.out⟩, Or.inr ⟨hch, ?_⟩⟩
        simp only [keeps, and_true, onT_at, isV]
        repeat' apply And.intro
        all_goals first
          | exact fun _ h => h
          | exact fun _ h => tupF.put h HB4.out _ _ _
          | exact fun _ h => memF.put h HB4.out _ _ _
          | exact fun _ h => ptAny.put h HB4.out _ _ _
          | exact fun h => by simp at h
      · intro f w4 hG pre old hd
        simp [depsF, bindE, List.filter_cons, bd_data, bd_chain, bd_guard, bd_phase, bd_text, bd_gc, fAt, onT_at, isV] at hd
        have e1 := hd.1
        clear hd
        simp [puts, dsts, Act.put, e1]
        go_wp2_with fail
        exact ⟨_, rfl, by simp [fAt, onT_at, upd_some, isV], Or.inl (gbR _ _)⟩
      · intro f w4 hG pre old hd
        simp [depsF, bindE, List.filter_cons, bd_data, bd_chain, bd_guard, bd_phase, bd_text, bd_gc, fAt, onT_at, isV] at hd
        have e1 := hd.1
        clear hd
        simp [puts, dsts, Act.put, e1]
        go_wp2_with fail
        exact ⟨_, rfl, by simp [fAt, onT_at, upd_some, isV], Or.inl (gbR _ _)⟩
      · intro f w4 hG pre old hd
        simp [depsF, bindE, List.filter_cons, bd_data, bd_chain, bd_guard, bd_phase, bd_text, bd_gc, fAt, onT_at, isV] at hd
        have e1 := hd.1
        clear hd
        simp [puts, dsts, Act.put, e1]
        go_wp2_with fail
        exact ⟨_, rfl, by simp [fAt, onT_at, upd_some, isV], Or.inl (gbR _ _)⟩
      rotate_left 6
      · intro f w4 hG pre old hd
        simp [depsF, bindE, List.filter_cons, bd_data, bd_chain, bd_guard, bd_phase, bd_text, bd_gc, fAt, onT_at, isV] at hd
        obtain ⟨V, eV, hm⟩ := hd
        clear hm
        simp [puts, dsts, Act.put, eV]
        go_wp2_with fail
        exact ⟨_, rfl, by simp [fAt, onT_at, upd_some, isV], Or.inl (gbR _ _)⟩
      · intro f w4 hG pre old hd
        simp [depsF, bindE, List.filter_cons, bd_data, bd_chain, bd_guard, bd_phase, bd_text, bd_gc, fAt, onT_at, isV] at hd
        obtain ⟨V, eV, hm⟩ := hd
        clear hm
        simp [puts, dsts, Act.put, eV]
        go_wp2_with fail
        exact ⟨_, rfl, by simp [fAt, onT_at, upd_some, isV], Or.inl (gbR _ _)⟩
      · intro f w4 hG pre old hd
        simp [depsF, bindE, List.filter_cons, bd_data, bd_chain, bd_guard, bd_phase, bd_text, bd_gc, fAt, onT_at, isV] at hd
        obtain ⟨V, eV, hm⟩ := hd
        clear hm
        simp [puts, dsts, Act.put, eV]
        go_wp2_with fail
        exact ⟨_, rfl, by simp [fAt, onT_at, upd_some, isV], Or.inl (gbR _ _)⟩
      all_goals
        intro f w4 hG pre old hd
        have hg4 := gbT (gbD (gbR w3 none)) (chgNil hG)
        obtain ⟨o0, o1, o2⟩ := (BO3.out.grow hg4).ld3; have k1 := gbk hg4 C1.out
        simp [depsF, bindE, List.filter_cons, bd_data, bd_chain, bd_guard, bd_phase, bd_text, bd_gc, fAt, onT_at, isV] at hd
        first | simp [puts, dsts, Act.put, hd] | simp [puts, dsts, Act.put]
        clear hd
        go_wp2_with fail
        exact ⟨_, rfl, by simp [fAt, onT_at, upd_some, isV], Or.inl (gbR _ _)⟩
    intro f y4 hG hd
    have G4 := Lib.hid (gbT (gbD (gbR w3 none)) (chgNil hG))
    simp [knowsF, onT_at, isV] at hd
    obtain ⟨r0_, r1_, r2_, r3_, r4_, r5_, ⟨VC_, eC_, _⟩, ⟨VM_, eM_, _⟩, _, e1_, e2_, e3_, _, ⟨gA_, eA_, hA_⟩, a1_, a2_, a3_⟩ := hd
    have HO_ := Lib.hid hA_
    obtain ⟨v0_, ev0_⟩ : ∃ v, f 34 = v := ⟨_, rfl⟩
    simp only [puts, dsts, Act.put, r0_, r1_, r2_, r3_, r4_, r5_, eC_, eM_, e1_, e2_, e3_, eA_, a1_, a2_, a3_, ev0_, List.filterMap_cons, List.filterMap_nil, List.setIfInBounds_toArray, List.set_cons_zero, List.set_cons_succ]
    clear hG hA_ eC_ eM_ e1_ e2_ e3_ eA_ a1_ a2_ a3_ ev0_
    have HA4 := Lib.hid (HA3.out.grow G4.out)
    have BO4 := Lib.hid (BO3.out.grow G4.out)
    have C24 := Lib.hid (gbk G4.out C2.out)
    have W4 := Lib.hid (gbT G3.out G4.out)
    have M1 := Lib.hid (acc_okw (write := false) (value := 0) HM.out ii (by omega) ra)
    have V0 := Lib.hid (accV_is (id := z) HM.out)
    have V1 : Hid (oval (acc m z false 0 (q1 % 8)) z = oval m z) := Lib.hid (by rw [acc_val HM.out]; simp)
    obtain ⟨m1, hm1⟩ : ∃ x, acc m z false 0 (q1 % 8) = x := ⟨_, rfl⟩
    rw [hm1] at M1 HO_ V1
    have V2 := Lib.hid (accV_is (id := z) M1.out)
    obtain ⟨A0', n0', c0', A1', c1', A2', c2', F0, F1, F2, hOS⟩ := OSE.forms HO_.out
    have HS4 := Lib.hid hOS
    have HA5 := Lib.hid hOS.agg.1
    clear hm1 hOS HA3 BO3 C2 G4 C1 HO_
    go_wp2_with fail
    refine region_reg6 [onT 39 (isV (.agg #[.slice A0' n0' c0', .slice A1' m1.st.length c1', .slice A2' m1.pos.length c2'])), onT 40 (isV (.int .i64 z)), onT 41 (isV (.slice (some ⟨qb, qo, none⟩) 12 d)), onT 42 (isV (.pointer (some ⟨qb, qo + 2, none⟩))), onT 43 (isV (.int .i64 q2)), onT 44 (isV (.int .i64 (q2 % 8))), onT 45 (tupF y4.heap.size (acc m1 z false 0 (q2 % 8)) (accV m1 z) (m1.leaf z) true), onT 38 (tupF y4.heap.size (acc m1 z false 0 (q2 % 8)) (accV m1 z) (m1.leaf z) true), onT 46 (memF y4.heap.size (acc m1 z false 0 (q2 % 8))), onT 47 (isV (.int .i64 (accV m1 z))), onT 48 (isV (.int .i64 (m1.leaf z))), onT 49 (isV (.bool true)), onT 10 (ptAny y4.heap.size), onT 10 (ptM y4.heap.size (acc m1 z false 0 (q2 % 8))), onT 11 (isV (.int .i64 (accV m1 z))), onT 12 (isV (.int .i64 (m1.leaf z))), onT 13 (isV (.bool true))] [] (by kernel_rfl) (by kernel_rfl) (by kernel_rfl) (by simp [stablesF, stableF_on, isV_st, tupF_st, memF_st, ptAny_st, ptM_st]) ?_ ?_
    · simp only [hops6, and_true]
      refine ⟨?_, ?_, ?_, ?_, ?_, ?_, ?_, ?_, ?_, ?_, ?_, ?_, ?_, ?_, ?_, ?_, ?_⟩
      rotate_left 6
      · intro f w4 hG pre old hd
        have hg4 := gbT (gbD (gbR y4 none)) (chgNil hG)
        have hs4 := hg4.size
        simp [depsF, bindE, List.filter_cons, bd_data, bd_chain, bd_guard, bd_phase, bd_text, bd_gc, fAt, onT_at, isV] at hd
        simp [puts, dsts, Act.put, hd]
        clear hd
        go_wp2_with fail
        refine (implOramAccess_ok m1 M1.out _ z 0 (q2 % 8) false w4 ii (by omega) rb (AggO.rd (HA5.out.grow hg4))).mono ?_
        rintro e w5 ⟨V, F, rfl, h1, h2, hw⟩
        have HT : Hid (memF y4.heap.size (acc m1 z false 0 (q2 % 8)) V w5) := Lib.hid ⟨F, h1, fun y hy => Nat.le_trans hs4 (h2 y hy)⟩
        clear h1 h2
        go_wp2_with fail
        exact ⟨_, rfl, ⟨V, rfl, HT.out⟩, Or.inl hw⟩
      · intro f w4 hG pre old hd
        simp [depsF, bindE, List.filter_cons, bd_data, bd_chain, bd_guard, bd_phase, bd_text, bd_gc, fAt, onT_at, isV] at hd
        obtain ⟨V, eV, hm⟩ := hd
        have HT := Lib.hid hm
        clear hm
        simp [puts, dsts, Act.put, eV]
        go_wp2_with fail
        exact ⟨_, rfl, ⟨V, rfl, HT.out⟩, Or.inl (gbR _ _)⟩
      · intro f w4 hG pre old hd
        simp [depsF, bindE, List.filter_cons, bd_data, bd_chain, bd_guard, bd_phase, bd_text, bd_gc, fAt, onT_at, isV] at hd
        obtain ⟨V, eV, hm⟩ := hd
        have HT := Lib.hid hm
        clear hm
        simp [puts, dsts, Act.put, eV]
        go_wp2_with fail
        exact ⟨_, rfl, HT.out, Or.inl (gbR _ _)⟩
      rotate_left 3
      · intro f w4 hG pre old hd
        have hg4 := gbT (gbD (gbR y4 none)) (chgNil hG)
        have hs4 := hg4.size
        clear hd
        simp [puts, dsts, Act.put]
        go_wp2_with fail
        exact ⟨_, rfl, ⟨_, rfl, hs4, _, _, _, Blk.new w4 _ _⟩, Or.inl (gbA (gbR _ _) _)⟩
      · intro f w4 hG pre old hd
        have hg4 := gbT (gbD (gbR y4 none)) (chgNil hG)
        simp [depsF, bindE, List.filter_cons, bd_data, bd_chain, bd_guard, bd_phase, bd_text, bd_gc, fAt, onT_at, isV] at hd
        obtain ⟨⟨g, eg, hlg, ca, cb, cc, B4⟩, ⟨F, ha, hl⟩, _⟩ := hd
        obtain ⟨B0, p0, s0', B1, p1, s1', B2, p2, s2', e0⟩ := coram_oform ha
        have hn := agg_ne ha B4
        have hOS : OSE y4.heap.size g (acc m1 z false 0 (q2 % 8)) (((w4.setCell ⟨g, 0, none⟩ (.slice B0 p0 s0')).setCell ⟨g, 1, none⟩ (.slice B1 p1 s1')).setCell ⟨g, 2, none⟩ (.slice B2 p2 s2')) := by
          rw [e0] at ha
          exact OS.made (cs := #[]) (fill3 B4 rfl _ _ _) (ha.chg (chgS3 w4 g _ _ _) (fun y hy e => hn (e ▸ hy))) hl hlg hn
        have hch := (chgS3 w4 g (.slice B0 p0 s0') (.slice B1 p1 s1') (.slice B2 p2 s2')).mono (T := fun b => y4.heap.size ≤ b) (fun y hy => by omega)
        have HO := Lib.hid hOS
        have HB4 := Lib.hid B4
        have b0 := B4.cell 0
        have b1 := B4.cell 1
        have b2 := B4.cell 2
        have f0 := B4.frozen 0
        have f1 := B4.frozen 1
        have f2 := B4.frozen 2
        simp at b0 b1 b2
        clear ha hl hn hOS B4
        simp [puts, dsts, Act.put, eg, e0]
        go_wp2_with fail
        refine ⟨rfl, ⟨.bool false, g, eg, HO.out⟩, Or.inr ⟨hch, ?_⟩⟩
        simp only [keeps, and_true, onT_at, isV]
        repeat' apply And.intro
        all_goals first
          | exact fun _ h => h
          | exact fun _ h => tupF.put h HB4.out _ _ _
          | exact fun _ h => memF.put h HB4.out _ _ _
          | exact fun _ h => ptAny.put h HB4.out _ _ _
          | exact fun h => by simp at h
      · intro f w4 hG pre old hd
        simp [depsF, bindE, List.filter_cons, bd_data, bd_chain, bd_guard, bd_phase, bd_text, bd_gc, fAt, onT_at, isV] at hd
        have e1 := hd.1
        clear hd
        simp [puts, dsts, Act.put, e1]
        go_wp2_with fail
        exact ⟨_, rfl, by simp [fAt, onT_at, upd_some, isV], Or.inl (gbR _ _)⟩
      · intro f w4 hG pre old hd
        simp [depsF, bindE, List.filter_cons, bd_data, bd_chain, bd_guard, bd_phase, bd_text, bd_gc, fAt, onT_at, isV] at hd
        have e1 := hd.1
        clear hd
        simp [puts, dsts, Act.put, e1]
        go_wp2_with fail
        exact ⟨_, rfl, by simp [fAt, onT_at, upd_some, isV], Or.inl (gbR _ _)⟩
      · intro f w4 hG pre old hd
        simp [depsF, bindE, List.filter_cons, bd_data, bd_chain, bd_guard, bd_phase, bd_text, bd_gc, fAt, onT_at, isV] at hd
        have e1 := hd.1
        clear hd
        simp [puts, dsts, Act.put, e1]
        go_wp2_with fail
        exact ⟨_, rfl, by simp [fAt, onT_at, upd_some, isV], Or.inl (gbR _ _)⟩
      rotate_left 6
      · intro f w4 hG pre old hd
        simp [depsF, bindE, List.filter_cons, bd_data, bd_chain, bd_guard, bd_phase, bd_text, bd_gc, fAt, onT_at, isV] at hd
        obtain ⟨V, eV, hm⟩ := hd
        clear hm
        simp [puts, dsts, Act.put, eV]
        go_wp2_with fail
        exact ⟨_, rfl, by simp [fAt, onT_at, upd_some, isV], Or.inl (gbR _ _)⟩
      · intro f w4 hG pre old hd
        simp [depsF, bindE, List.filter_cons, bd_data, bd_chain, bd_guard, bd_phase, bd_text, bd_gc, fAt, onT_at, isV] at hd
        obtain ⟨V, eV, hm⟩ := hd
        clear hm
        simp [puts, dsts, Act.put, eV]
        go_wp2_with fail
        exact ⟨_, rfl, by simp [fAt, onT_at, upd_some, isV], Or.inl (gbR _ _)⟩
      · intro f w4 hG pre old hd
        simp [depsF, bindE, List.filter_cons, bd_data, bd_chain, bd_guard, bd_phase, bd_text, bd_gc, fAt, onT_at, isV] at hd
        obtain ⟨V, eV, hm⟩ := hd
        clear hm
        simp [puts, dsts, Act.put, eV]
        go_wp2_with fail
        exact ⟨_, rfl, by simp [fAt, onT_at, upd_some, isV], Or.inl (gbR _ _)⟩
      all_goals
        intro f w4 hG pre old hd
        have hg4 := gbT (gbD (gbR y4 none)) (chgNil hG)
        obtain ⟨o0, o1, o2⟩ := (HS4.out.blk.grow hg4).ld3; have k1 := gbk hg4 C24.out
        simp [depsF, bindE, List.filter_cons, bd_data, bd_chain, bd_guard, bd_phase, bd_text, bd_gc, fAt, onT_at, isV] at hd
        first | simp [puts, dsts, Act.put, hd] | simp [puts, dsts, Act.put]
        clear hd
        go_wp2_with fail
        exact ⟨_, rfl, by simp [fAt, onT_at, upd_some, isV], Or.inl (gbR _ _)⟩
    intro f y5 hG hd
    have G5 := Lib.hid (gbT (gbD (gbR y4 none)) (chgNil hG))
    simp [knowsF, onT_at, isV] at hd
    obtain ⟨r0_, r1_, r2_, r3_, r4_, r5_, ⟨VC_, eC_, _⟩, ⟨VM_, eM_, _⟩, _, e1_, e2_, e3_, _, ⟨gA_, eA_, hA_⟩, a1_, a2_, a3_⟩ := hd
    have HO_ := Lib.hid hA_
    obtain ⟨v0_, ev0_⟩ : ∃ v, f 46 = v := ⟨_, rfl⟩
    simp only [puts, dsts, Act.put, r0_, r1_, r2_, r3_, r4_, r5_, eC_, eM_, e1_, e2_, e3_, eA_, a1_, a2_, a3_, ev0_, List.filterMap_cons, List.filterMap_nil, List.setIfInBounds_toArray, List.set_cons_zero, List.set_cons_succ]
    clear hG hA_ eC_ eM_ e1_ e2_ e3_ eA_ a1_ a2_ a3_ ev0_
    have HA6 := Lib.hid (HA4.out.grow G5.out)
    have BO6 := Lib.hid (BO4.out.grow G5.out)
    have W5 := Lib.hid (gbT W4.out G5.out)
    have M2 := Lib.hid (acc_okw (write := false) (value := 0) M1.out ii (by omega) rb)
    obtain ⟨m2, hm2⟩ : ∃ x, acc m1 z false 0 (q2 % 8) = x := ⟨_, rfl⟩
    rw [hm2] at M2 HO_
    rw [V0.out, V2.out, V1.out]
    obtain ⟨ov, hov⟩ : ∃ x, oval m z = x := ⟨_, rfl⟩
    rw [hov]
    have VO : Hid (valO m z = ov) := Lib.hid (by rw [valO_yes (oramB_yes HM.out) ii.1 ii.2]; exact hov)
    obtain ⟨B0', k0', d0', B1', d1', B2', d2', E0, E1, E2, hOS⟩ := OSE.forms HO_.out
    have HS5 := Lib.hid hOS
    obtain ⟨x0, x1, x2⟩ := hOS.blk.ld3
    clear hm2 hov hOS HA4 BO4 C24 W4 G5 HO_ V0 V1 V2
    go_wp2_with fail
    refine (implOramSizes_c m2 _ y5 (AggO.rd HS5.out.agg.1) (by have := M2.out.szle; omega)).mono ?_
    rintro e w6 ⟨v6, rfl, o6, g6⟩
    have hl16 : (osizes m2).length = 16 := by unfold osizes osz; simp [M2.out.nb]
    rw [hl16] at o6
    obtain ⟨gb, cb, rfl, _, _⟩ := own_form2 o6 (by omega)
    have IB := Lib.hid (show Ints w6 (some ⟨gb, 0, none⟩) 16 (osizes m2) from Rd.ofOwn o6)
    have HA7 := Lib.hid (HA6.out.grow g6)
    have BO7 := Lib.hid (BO6.out.grow g6)
    have W6 := Lib.hid (gbT W5.out g6)
    clear o6 g6 x0 x1 x2
    go_wp2_with fail
    go_loop [15] (fun i => ∃ k : Nat, k ≤ 15 ∧ i = .int .i64 k) (fun i => 15 - (intOf i).toNat)
    case atStart => exact ⟨0, by omega, rfl⟩
    case round =>
      obtain ⟨k, hk, rfl⟩ := hrel
      by_cases hlt : k < 15
      · obtain ⟨b', o', e', hb', hc'⟩ := IB.out.cell (k := k) (by omega)
        injection e' with e'
        injection e' with e1 e2
        subst e1 e2
        obtain ⟨x, hx, x0, x2⟩ := osizes_room M2.out hlt
        rw [show (osizes m2).getD k 0 = x by rw [List.getD_eq_getElem?_getD, hx]; rfl, Nat.zero_add] at hc'
        have i1 : (k : Int) < 16 := by omega
        have i2 : (k : Int) + 1 < 16 := by omega
        have d1 : decide (2 < x) = false := by simp; omega
        have d2 : decide (x < 0) = false := by simp; omega
        clear hx
        go_wp2_with fail
        go_round
        case rel => exact ⟨k + 1, by omega, by go_num⟩
        case measure => simp [intOf]; omega
      · have hk16 : k = 15 := by omega
        subst hk16
        obtain ⟨x0, x1, x2⟩ := BO7.out.ld3
        go_wp2_with fail
        refine (implOramValue_c m _ z w6 (AggO.rd HA7.out) (by have := HM.out.szle; omega)).mono ?_
        rintro e w7 ⟨rfl, g7⟩
        rw [VO.out]
        go_wp2_with fail
        go_ret
        exact ⟨rfl, gbT W6.out g7⟩
end Go.Proofs.Ythncoohkdmjcaaa
