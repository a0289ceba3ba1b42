/-
  FnBlocks: the walk.
-/
import Derived.Test.YthncoohkdmjcaaaMgFnBlocks44
namespace Go.Proofs.Ythncoohkdmjcaaa
open Go.RowKit
set_option linter.unusedVariables false
set_option linter.unusedSimpArgs false
theorem sum_len (l : List (List Bk)) : (l.map fun x => (x.length : Int)).sum = (l.flatten.length : Int) := by
  induction l with
  | nil => rfl
  | cons x l ih => simp [ih]
theorem osizes_sum (m : OM) : (osizes m).sum = (m.all.length : Int) := by
  unfold osizes OM.all osz
  rw [List.sum_append, List.take_length, sum_len]
  simp
theorem osizes_nn (m : OM) : ∀ x ∈ osizes m, 0 ≤ x := by
  intro x hx
  unfold osizes osz at hx
  rcases List.mem_append.1 hx with hx | hx
  · obtain ⟨l, _, rfl⟩ := List.mem_map.1 hx
    omega
  · simp at hx
    omega
theorem sum_nn {l : List Int} (h : ∀ x ∈ l, 0 ≤ x) : 0 ≤ l.sum := by
  induction l with
  | nil => simp
  | cons x l ih =>
    have h1 := h x (List.mem_cons_self ..)
    have h2 := ih (fun y hy => h y (List.mem_cons_of_mem _ hy))
    simp
    omega
/-- A partial sum of numbers not below 0. -/
theorem part_sum {l : List Int} (h : ∀ x ∈ l, 0 ≤ x) {b : Int} (hb : l.sum ≤ b) {k : Nat} {x : Int} (hx : l[k]? = some x) : 0 ≤ (l.take k).sum ∧ 0 ≤ x ∧ (l.take k).sum + x ≤ b ∧ (l.take (k + 1)).sum = (l.take k).sum + x := by
  have hm := List.mem_of_getElem? hx
  have h1 : (l.take (k + 1)).sum = (l.take k).sum + x := by
    rw [List.take_add_one, hx, List.sum_append]
    simp
  have h2 : l.sum = (l.take (k + 1)).sum + (l.drop (k + 1)).sum := by
    conv => lhs; rw [← List.take_append_drop (k + 1) l, List.sum_append]
  have h3 := sum_nn (l := l.drop (k + 1)) (fun y hy => h y (List.mem_of_mem_drop hy))
  have h4 := sum_nn (l := l.take k) (fun y hy => h y (List.mem_of_mem_take hy))
  have h5 := h x hm
  omega
set_option maxHeartbeats 4000000 in
set_option maxRecDepth 1000000 in
theorem FnBlocks.walk (w : World) (A : Option Addr) (n c : Nat) (zs : List Int) (hz : IntsK .u8 w A n zs) (hm : n ≤ maxLen) :
    Calls Try.prog 9 #[.slice A n c] w fun e w' => e = .returned (.bool true) ∧ w.grownBy w' none := by
  unfold maxLen at hm
  by_cases hbig : 1048576 < n
  · have hd : decide (1048576 < n) = true := by simp; omega
    go_enter Try.func9, Try.ntmps9
    go_wp2_with fail
    refine (big_c _ A n c (by omega)).mono ?_
    rintro e w1 ⟨rfl, rfl⟩
    go_wp2_with fail
    go_ret
    exact ⟨rfl, gbR _ _⟩
  · have hd : decide (1048576 < n) = false := by simp; omega
    have H := Lib.hid (bytesIn hz (by omega))
    clear hz
    go_enter Try.func9, Try.ntmps9
    go_wp2_with fail
    refine (big_c _ A n c (by omega)).mono ?_
    rintro e w1 ⟨rfl, rfl⟩
    rw [hd]
    clear hd hbig hm
    go_wp2_with fail
    refine (DrawOram_c _ A n c zs H.out).mono ?_
    rintro e w1 ⟨V, m, F, rfl, hm, ha, hl, hg1⟩
    obtain ⟨A0, n0, c0, A1, n1, c1, A2, n2, c2, rfl⟩ := coram_oform ha
    have HM := Lib.hid hm
    obtain ⟨gO, hgO⟩ : ∃ x, w1.heap.size = x := ⟨_, rfl⟩
    obtain ⟨w2, hw2⟩ : ∃ x : World, w1.alloc (.cells #[.slice A0 n0 c0, .slice A1 n1 c1, .slice A2 n2 c2] 36) = x := ⟨_, rfl⟩
    have HA : Hid (AggO w2 (coram m) F (.agg #[.slice A0 n0 c0, .slice A1 n1 c1, .slice A2 n2 c2])) := by rw [← hw2]; exact Lib.hid (ha.grow (gbA (gbR _ _) _))
    have BO : Hid (Blk w2 gO 36 #[.slice A0 n0 c0, .slice A1 n1 c1, .slice A2 n2 c2]) := by rw [← hw2, ← hgO]; exact Lib.hid (Blk.new _ _ _)
    have G2 : Hid (w.grownBy w2 none) := by rw [← hw2]; exact Lib.hid (gbA hg1 _)
    clear ha hl hg1 hm
    go_wp2_with fail
    try rw [hw2]
    try rw [hgO]
    clear hw2 hgO
    refine (DrawPlaces_c _ A n c zs (H.out.grow G2.out)).mono ?_
    rintro e w3 ⟨v, qs, rfl, hown, hq, hg⟩
    obtain ⟨B, d, rfl, _, _⟩ := own_form hown
    have HI := Lib.hid (show Ints w3 B 12 qs from Rd.ofOwn hown)
    have HQ := Lib.hid hq
    have HA3 := Lib.hid (HA.out.grow hg)
    have BO3 := Lib.hid (BO.out.grow hg)
    have G3 := Lib.hid (gbT G2.out hg)
    obtain ⟨qb, qo, rfl, hqb, hqc⟩ := HI.out.at_ (by omega)
    have HQC := Lib.hid hqc
    clear hown hq hg HA BO G2 H hqc
    have c0 := HQC.out 0 (by omega)
    have c1 := HQC.out 1 (by omega)
    rw [Nat.add_zero] at c0
    have p0 := HQ.out.at_ 0 (by omega)
    have p1 := HQ.out.at_ 1 (by omega)
    obtain ⟨q0, hq0⟩ : ∃ q, qs.getD 0 0 = q := ⟨_, rfl⟩
    obtain ⟨q1, hq1⟩ : ∃ q, qs.getD 1 0 = q := ⟨_, rfl⟩
    rw [hq0] at c0 p0
    rw [hq1] at c1 p1
    have C0 := Lib.hid c0
    have C1 := Lib.hid c1
    clear c0 c1 hq0 hq1
    go_wp2_with fail
    have r0 := Int.emod_nonneg q0 (b := 12) (by omega)
    have r0' := Int.emod_lt_of_pos q0 (b := 12) (by omega)
    have r1 := Int.emod_nonneg q1 (b := 8) (by omega)
    have r1' := Int.emod_lt_of_pos q1 (b := 8) (by omega)
    have ii : 0 ≤ q0 % 12 ∧ q0 % 12 ≤ 11 := by omega
    have ra : 0 ≤ q1 % 8 ∧ q1 % 8 ≤ 7 := by omega
    refine region_reg6 [onT 22 (isV (.agg #[.slice A0 n0 c0, .slice A1 n1 c1, .slice A2 n2 c2])), onT 23 (isV (.slice (some ⟨qb, qo, none⟩) 12 d)), onT 24 (isV (.pointer (some ⟨qb, qo, none⟩))), onT 25 (isV (.int .i64 q0)), onT 26 (isV (.int .i64 (q0 % 12))), onT 27 (isV (.slice (some ⟨qb, qo, none⟩) 12 d)), onT 28 (isV (.pointer (some ⟨qb, qo + 1, none⟩))), onT 29 (isV (.int .i64 q1)), onT 30 (isV (.int .i64 (q1 % 8))), onT 31 (tupF w3.heap.size (acc m (q0 % 12) false 0 (q1 % 8)) (accV m (q0 % 12)) (m.leaf (q0 % 12)) true), onT 21 (tupF w3.heap.size (acc m (q0 % 12) false 0 (q1 % 8)) (accV m (q0 % 12)) (m.leaf (q0 % 12)) true), onT 32 (memF w3.heap.size (acc m (q0 % 12) false 0 (q1 % 8))), onT 33 (isV (.int .i64 (accV m (q0 % 12)))), onT 34 (isV (.int .i64 (m.leaf (q0 % 12)))), onT 35 (isV (.bool true)), onT 5 (ptAny w3.heap.size), onT 5 (ptM w3.heap.size (acc m (q0 % 12) false 0 (q1 % 8))), onT 6 (isV (.int .i64 (accV m (q0 % 12)))), onT 7 (isV (.int .i64 (m.leaf (q0 % 12)))), onT 8 (isV (.bool true))] [] (by kernel_rfl) (by kernel_rfl) (by kernel_rfl) (by simp [stablesF, stableF_on, isV_st, tupF_st, memF_st, ptAny_st, ptM_st]) ?_ ?_
    · simp only [hops6, and_true]
      refine ⟨?_, ?_, ?_, ?_, ?_, ?_, ?_, ?_, ?_, ?_, ?_, ?_, ?_, ?_, ?_, ?_, ?_, ?_, ?_, ?_⟩
      rotate_left 9
      · intro f w4 hG pre old hd
        have hg4 := gbT (gbD (gbR w3 none)) (chgNil hG)
        have hs4 := hg4.size
        simp [depsF, bindE, List.filter_cons, bd_data, bd_chain, bd_guard, bd_phase, bd_text, bd_gc, fAt, onT_at, isV] at hd
        simp [puts, dsts, Act.put, hd]
        clear hd
        go_wp2_with fail
        refine (implOramAccess_ok m HM.out _ (q0 % 12) 0 (q1 % 8) false w4 ii (by omega) ra (AggO.rd (HA3.out.grow hg4))).mono ?_
        rintro e w5 ⟨V, F, rfl, h1, h2, hw⟩
        have HT : Hid (memF w3.heap.size (acc m (q0 % 12) false 0 (q1 % 8)) V w5) := Lib.hid ⟨F, h1, fun y hy => Nat.le_trans hs4 (h2 y hy)⟩
        clear h1 h2
        go_wp2_with fail
        exact ⟨_, rfl, ⟨V, rfl, HT.out⟩, Or.inl hw⟩
      · intro f w4 hG pre old hd
        simp [depsF, bindE, List.filter_cons, bd_data, bd_chain, bd_guard, bd_phase, bd_text, bd_gc, fAt, onT_at, isV] at hd
        obtain ⟨V, eV, hm⟩ := hd
        have HT := Lib.hid hm
        clear hm
        simp [puts, dsts, Act.put, eV]
        go_wp2_with fail
        exact ⟨_, rfl, ⟨V, rfl, HT.out⟩, Or.inl (gbR _ _)⟩
      · intro f w4 hG pre old hd
        simp [depsF, bindE, List.filter_cons, bd_data, bd_chain, bd_guard, bd_phase, bd_text, bd_gc, fAt, onT_at, isV] at hd
        obtain ⟨V, eV, hm⟩ := hd
        have HT := Lib.hid hm
        clear hm
        simp [puts, dsts, Act.put, eV]
        go_wp2_with fail
        exact ⟨_, rfl, HT.out, Or.inl (gbR _ _)⟩
      rotate_left 3
      · intro f w4 hG pre old hd
        have hg4 := gbT (gbD (gbR w3 none)) (chgNil hG)
        have hs4 := hg4.size
        clear hd
        simp [puts, dsts, Act.put]
        go_wp2_with fail
        exact ⟨_, rfl, ⟨_, rfl, hs4, _, _, _, Blk.new w4 _ _⟩, Or.inl (gbA (gbR _ _) _)⟩
      · intro f w4 hG pre old hd
        have hg4 := gbT (gbD (gbR w3 none)) (chgNil hG)
        simp [depsF, bindE, List.filter_cons, bd_data, bd_chain, bd_guard, bd_phase, bd_text, bd_gc, fAt, onT_at, isV] at hd
        obtain ⟨⟨g, eg, hlg, ca, cb, cc, B4⟩, ⟨F, ha, hl⟩, _⟩ := hd
        obtain ⟨B0, p0, s0', B1, p1, s1', B2, p2, s2', e0⟩ := coram_oform ha
        have hn := agg_ne ha B4
        have hOS : OSE w3.heap.size g (acc m (q0 % 12) false 0 (q1 % 8)) (((w4.setCell ⟨g, 0, none⟩ (.slice B0 p0 s0')).setCell ⟨g, 1, none⟩ (.slice B1 p1 s1')).setCell ⟨g, 2, none⟩ (.slice B2 p2 s2')) := by
          rw [e0] at ha
          exact OS.made (cs := #[]) (fill3 B4 rfl _ _ _) (ha.chg (chgS3 w4 g _ _ _) (fun y hy e => hn (e ▸ hy))) hl hlg hn
        have hch := (chgS3 w4 g (.slice B0 p0 s0') (.slice B1 p1 s1') (.slice B2 p2 s2')).mono (T := fun b => w3.heap.size ≤ b) (fun y hy => by omega)
        have HO := Lib.hid hOS
        have HB4 := Lib.hid B4
        have b0 := B4.cell 0
        have b1 := B4.cell 1
        have b2 := B4.cell 2
        have f0 := B4.frozen 0
        have f1 := B4.frozen 1
        have f2 := B4.frozen 2
        simp at b0 b1 b2
        clear ha hl hn hOS B4
        simp [puts, dsts, Act.put, eg, e0]
        go_wp2_with fail
        refine ⟨rfl, ⟨.bool false, g, eg, HO.out⟩, Or.inr ⟨hch, ?_⟩⟩
        simp only [keeps, and_true, onT_at, isV]
        repeat' apply And.intro
        all_goals first
          | exact fun _ h => h
          | exact fun _ h => tupF.put h HB4.out _ _ _
          | exact fun _ h => memF.put h HB4.out _ _ _
          | exact fun _ h => ptAny.put h HB4.out _ _ _
          | exact fun h => by simp at h
      · intro f w4 hG pre old hd
        simp [depsF, bindE, List.filter_cons, bd_data, bd_chain, bd_guard, bd_phase, bd_text, bd_gc, fAt, onT_at, isV] at hd
        have e1 := hd.1
        clear hd
        simp [puts, dsts, Act.put, e1]
        go_wp2_with fail
        exact ⟨_, rfl, by simp [fAt, onT_at, upd_some, isV], Or.inl (gbR _ _)⟩
      · intro f w4 hG pre old hd
        simp [depsF, bindE, List.filter_cons, bd_data, bd_chain, bd_guard, bd_phase, bd_text, bd_gc, fAt, onT_at, isV] at hd
        have e1 := hd.1
        clear hd
        simp [puts, dsts, Act.put, e1]
        go_wp2_with fail
        exact ⟨_, rfl, by simp [fAt, onT_at, upd_some, isV], Or.inl (gbR _ _)⟩
      · intro f w4 hG pre old hd
        simp [depsF, bindE, List.filter_cons, bd_data, bd_chain, bd_guard, bd_phase, bd_text, bd_gc, fAt, onT_at, isV] at hd
        have e1 := hd.1
        clear hd
        simp [puts, dsts, Act.put, e1]
        go_wp2_with fail
        exact ⟨_, rfl, by simp [fAt, onT_at, upd_some, isV], Or.inl (gbR _ _)⟩
      rotate_left 9
      · intro f w4 hG pre old hd
        simp [depsF, bindE, List.filter_cons, bd_data, bd_chain, bd_guard, bd_phase, bd_text, bd_gc, fAt, onT_at, isV] at hd
        obtain ⟨V, eV, hm⟩ := hd
        clear hm
        simp [puts, dsts, Act.put, eV]
        go_wp2_with fail
        exact ⟨_, rfl, by simp [fAt, onT_at, upd_some, isV], Or.inl (gbR _ _)⟩
      · intro f w4 hG pre old hd
        simp [depsF, bindE, List.filter_cons, bd_data, bd_chain, bd_guard, bd_phase, bd_text, bd_gc, fAt, onT_at, isV] at hd
        obtain ⟨V, eV, hm⟩ := hd
        clear hm
        simp [puts, dsts, Act.put, eV]
        go_wp2_with fail
        exact ⟨_, rfl, by simp [fAt, onT_at, upd_some, isV], Or.inl (gbR _ _)⟩
      · intro f w4 hG pre old hd
        simp [depsF, bindE, List.filter_cons, bd_data, bd_chain, bd_guard, bd_phase, bd_text, bd_gc, fAt, onT_at, isV] at hd
        obtain ⟨V, eV, hm⟩ := hd
        clear hm
        simp [puts, dsts, Act.put, eV]
        go_wp2_with fail
        exact ⟨_, rfl, by simp [fAt, onT_at, upd_some, isV], Or.inl (gbR _ _)⟩
      all_goals
        intro f w4 hG pre old hd
        have hg4 := gbT (gbD (gbR w3 none)) (chgNil hG)
        obtain ⟨o0, o1, o2⟩ := (BO3.out.grow hg4).ld3; have k0 := gbk hg4 C0.out; have k1 := gbk hg4 C1.out
        simp [depsF, bindE, List.filter_cons, bd_data, bd_chain, bd_guard, bd_phase, bd_text, bd_gc, fAt, onT_at, isV] at hd
        first | simp [puts, dsts, Act.put, hd] | simp [puts, dsts, Act.put]
        clear hd
        go_wp2_with fail
        exact ⟨_, rfl, by simp [fAt, onT_at, upd_some, isV], Or.inl (gbR _ _)⟩
    intro f w4 hG hd
    have G4 := Lib.hid (gbT (gbD (gbR w3 none)) (chgNil hG))
    simp [knowsF, onT_at, isV] at hd
    obtain ⟨r0_, r1_, r2_, r3_, r4_, r5_, r6_, r7_, r8_, ⟨VC_, eC_, _⟩, ⟨VM_, eM_, _⟩, _, e1_, e2_, e3_, _, ⟨gA_, eA_, hA_⟩, a1_, a2_, a3_⟩ := hd
    have HO_ := Lib.hid hA_
    obtain ⟨v0_, ev0_⟩ : ∃ v, f 32 = v := ⟨_, rfl⟩
    simp only [puts, dsts, Act.put, r0_, r1_, r2_, r3_, r4_, r5_, r6_, r7_, r8_, eC_, eM_, e1_, e2_, e3_, eA_, a1_, a2_, a3_, ev0_, List.filterMap_cons, List.filterMap_nil, List.setIfInBounds_toArray, List.set_cons_zero, List.set_cons_succ]
    clear hG hA_ eC_ eM_ e1_ e2_ e3_ eA_ a1_ a2_ a3_ ev0_
    obtain ⟨o0, o1, o2⟩ := (BO3.out.grow G4.out).ld3
    have HA4 := Lib.hid (HA3.out.grow G4.out)
    have W4 := Lib.hid (gbT G3.out G4.out)
    have M2 := Lib.hid (acc_okw (write := false) (value := 0) HM.out ii (by omega) ra)
    have CN := Lib.hid (acc_count (id := q0 % 12) (value := 0) (leaf := q1 % 8) HM.out)
    obtain ⟨m2, hm2⟩ : ∃ x, acc m (q0 % 12) false 0 (q1 % 8) = x := ⟨_, rfl⟩
    rw [hm2] at M2 HO_ CN
    clear hm2
    go_wp2_with fail
    refine (implOramSizes_c m _ w4 (AggO.rd HA4.out) (by have := HM.out.szle; omega)).mono ?_
    rintro e w5 ⟨v5, rfl, o5, g5⟩
    have hl16 : (osizes m).length = 16 := by unfold osizes osz; simp [HM.out.nb]
    have hl16' : (osizes m2).length = 16 := by unfold osizes osz; simp [M2.out.nb]
    rw [hl16] at o5
    obtain ⟨ga, ca, rfl, _, _⟩ := own_form2 o5 (by omega)
    have IA := Lib.hid (show Ints w5 (some ⟨ga, 0, none⟩) 16 (osizes m) from Rd.ofOwn o5)
    obtain ⟨A0', n0', c0', A1', c1', A2', c2', F0, F1, F2, hOS⟩ := OSE.forms (HO_.out.grow g5)
    have HS5 := Lib.hid hOS
    obtain ⟨x0, x1, x2⟩ := hOS.blk.ld3
    have W5 := Lib.hid (gbT W4.out g5)
    clear o5 g5 hOS o0 o1 o2
    go_wp2_with fail
    refine (implOramSizes_c m2 _ w5 (AggO.rd HS5.out.agg.1) (by have := M2.out.szle; omega)).mono ?_
    rintro e w6 ⟨v6, rfl, o6, g6⟩
    rw [hl16'] at o6
    obtain ⟨gb, cb, rfl, _, _⟩ := own_form2 o6 (by omega)
    have IB := Lib.hid (show Ints w6 (some ⟨gb, 0, none⟩) 16 (osizes m2) from Rd.ofOwn o6)
    have IA6 := Lib.hid (Ints.grow IA.out g6)
    have HS6 := Lib.hid (HS5.out.grow g6)
    have W6 := Lib.hid (gbT W5.out g6)
    have SA : Hid ((osizes m).sum = (m.all.length : Int)) := Lib.hid (osizes_sum m)
    have SB : Hid ((osizes m2).sum = (m.all.length : Int)) := Lib.hid (by rw [osizes_sum, CN.out])
    have FW := HM.out.few
    have NA := Lib.hid (osizes_nn m)
    have NB := Lib.hid (osizes_nn m2)
    obtain ⟨N, hN⟩ : ∃ N : Nat, m.all.length = N := ⟨_, rfl⟩
    rw [hN] at SA SB FW
    obtain ⟨xa, hxa⟩ : ∃ l, osizes m = l := ⟨_, rfl⟩
    obtain ⟨xb, hxb⟩ : ∃ l, osizes m2 = l := ⟨_, rfl⟩
    rw [hxa] at IA6 SA NA hl16
    rw [hxb] at IB SB NB hl16'
    clear o6 g6 x0 x1 x2 hN hxa hxb
    go_wp2_with fail
    go_loop [11, 13] (fun s i => ∃ k : Nat, k ≤ 16 ∧ i = .int .i64 k ∧ s = .int .i64 (xa.take k).sum) (fun _ i => 16 - (intOf i).toNat)
    case atStart => exact ⟨0, by omega, rfl, by simp⟩
    case round =>
      obtain ⟨k, hk, rfl, rfl⟩ := hrel
      by_cases hlt : k < 16
      · obtain ⟨b', o', e', hb', hc'⟩ := IA6.out.cell (k := k) hlt
        injection e' with e'
        injection e' with e1 e2
        subst e1 e2
        obtain ⟨x, hx⟩ : ∃ x, xa[k]? = some x := ⟨_, List.getElem?_eq_getElem (by omega)⟩
        obtain ⟨s1, s2, s3, s4⟩ := part_sum NA.out (Int.le_of_eq SA.out) hx
        rw [show xa.getD k 0 = x by rw [List.getD_eq_getElem?_getD, hx]; rfl, Nat.zero_add] at hc'
        have S4 := Lib.hid s4
        obtain ⟨S, hS⟩ : ∃ S, (xa.take k).sum = S := ⟨_, rfl⟩
        rw [hS] at s1 s3 S4 ⊢
        have i1 : (k : Int) < 16 := by omega
        clear hx s4 hS
        go_wp2_with fail
        go_round
        case rel => exact ⟨k + 1, by omega, by go_num, by rw [S4.out]⟩
        case measure => simp [intOf]; omega
      · have hk16 : k = 16 := by omega
        subst hk16
        rw [List.take_of_length_le (by omega), SA.out]
        go_wp2_with fail
        go_loop [12, 14] (fun s i => ∃ k : Nat, k ≤ 16 ∧ i = .int .i64 k ∧ s = .int .i64 (xb.take k).sum) (fun _ i => 16 - (intOf i).toNat)
        case atStart => exact ⟨0, by omega, rfl, by simp⟩
        case round =>
          obtain ⟨k, hk, rfl, rfl⟩ := hrel
          by_cases hlt : k < 16
          · obtain ⟨b', o', e', hb', hc'⟩ := IB.out.cell (k := k) hlt
            injection e' with e'
            injection e' with e1 e2
            subst e1 e2
            obtain ⟨x, hx⟩ : ∃ x, xb[k]? = some x := ⟨_, List.getElem?_eq_getElem (by omega)⟩
            obtain ⟨s1, s2, s3, s4⟩ := part_sum NB.out (Int.le_of_eq SB.out) hx
            rw [show xb.getD k 0 = x by rw [List.getD_eq_getElem?_getD, hx]; rfl, Nat.zero_add] at hc'
            have S4 := Lib.hid s4
            obtain ⟨S, hS⟩ : ∃ S, (xb.take k).sum = S := ⟨_, rfl⟩
            rw [hS] at s1 s3 S4 ⊢
            have i1 : (k : Int) < 16 := by omega
            clear hx s4 hS
            go_wp2_with fail
            go_round
            case rel => exact ⟨k + 1, by omega, by go_num, by rw [S4.out]⟩
            case measure => simp [intOf]; omega
          · have hk16 : k = 16 := by omega
            subst hk16
            rw [List.take_of_length_le (by omega), SB.out]
            obtain ⟨x0, x1, x2⟩ := HS6.out.blk.ld3
            go_wp2_with fail
            refine (implOramOk_c m2 _ w6 (AggO.rd HS6.out.agg.1) (by have := M2.out.szle; omega)).mono ?_
            rintro e w7 ⟨rfl, g7⟩
            rw [oramB_yes M2.out]
            go_wp2_with fail
            go_ret
            exact ⟨rfl, gbT W6.out g7⟩
end Go.Proofs.Ythncoohkdmjcaaa
