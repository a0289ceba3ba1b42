/-
  FnMemory: the walk.
-/
import Derived.Test.YthncoohkdmjcaaaMgFnMemory44
import Derived.Test.YthncoohkdmjcaaaMgFnMemory28
namespace Go.Proofs.Ythncoohkdmjcaaa
open Go.RowKit
set_option linter.unusedVariables false
set_option linter.unusedSimpArgs false
/-- What an array of all words holds. -/
noncomputable def wants (m : OM) (k : Nat) : List Int := (List.range k).map fun j : Nat => oval m (j : Int)
theorem wants_succ (m : OM) (k : Nat) : wants m (k + 1) = wants m k ++ [oval m (k : Int)] := by
  unfold wants
  rw [List.range_succ, List.map_append]
  rfl
theorem wants_at (m : OM) {k n : Nat} (h : k < n) : (wants m n)[k]? = some (oval m (k : Int)) := by
  unfold wants
  rw [List.getElem?_map, List.getElem?_range h]
  rfl
theorem wants_read {m : OM} (hm : OOk m) {id value leaf : Int} : wants (acc m id false value leaf) 12 = wants m 12 := by
  unfold wants
  refine List.map_congr_left fun j _ => ?_
  rw [acc_val hm]
  simp
theorem wants_write {m : OM} (hm : OOk m) {i : Nat} {value leaf : Int} : wants (acc m (i : Int) true value leaf) 12 = (wants m 12).set i value := by
  apply List.ext_getElem?
  intro j
  rw [List.getElem?_set]
  unfold wants
  rw [List.getElem?_map, List.getElem?_map]
  by_cases hj : j < 12
  · rw [List.getElem?_range hj]
    simp only [Option.map_some]
    rw [acc_val hm]
    by_cases e : i = j
    · subst e
      simp [hj]
    · have : ¬ ((j : Int) = (i : Int)) := by omega
      simp [e, this]
  · rw [List.getElem?_eq_none (by simpa using Nat.le_of_not_lt hj)]
    by_cases e : i = j
    · subst e; simp [hj]
    · simp [e]
/-- Between two accesses. -/
def MemI (gO gw cw : Nat) (w : World) : Prop := ∃ (m : OM) (F : List Nat) (A0 : Option Addr) (n0 c0 : Nat) (A1 : Option Addr) (n1 c1 : Nat) (A2 : Option Addr) (n2 c2 : Nat), OOk m ∧ AggO w (coram m) F (.agg #[.slice A0 n0 c0, .slice A1 n1 c1, .slice A2 n2 c2]) ∧ Blk w gO 36 #[.slice A0 n0 c0, .slice A1 n1 c1, .slice A2 n2 c2] ∧ gw ∉ F ∧ gO ∉ F ∧ w.ownsRow 0 3 1 (.slice (some ⟨gw, 0, none⟩) 12 cw) 12 ((wants m 12).map (Value.int .i64))
set_option maxHeartbeats 4000000 in
set_option maxRecDepth 1000000 in
theorem FnMemory.walk (w : World) (A : Option Addr) (n c : Nat) (zs : List Int) (hz : IntsK .u8 w A n zs) (hm : n ≤ maxLen) :
    Calls Try.prog 12 #[.slice A n c] w fun e w' => e = .returned (.bool true) ∧ w.grownBy w' none := by
  unfold maxLen at hm
  by_cases hbig : 1048576 < n
  · have hd : decide (1048576 < n) = true := by simp; omega
    go_enter Try.func12, Try.ntmps12
    go_wp2_with fail
    refine (big_c _ A n c (by omega)).mono ?_
    rintro e w1 ⟨rfl, rfl⟩
    go_wp2_with fail
    go_ret
    exact ⟨rfl, gbR _ _⟩
  · have hd : decide (1048576 < n) = false := by simp; omega
    have H := Lib.hid (bytesIn hz (by omega))
    clear hz
    go_enter Try.func12, Try.ntmps12
    go_wp2_with fail
    refine (big_c _ A n c (by omega)).mono ?_
    rintro e w1 ⟨rfl, rfl⟩
    rw [hd]
    clear hd hbig hm
    go_wp2_with fail
    refine (DrawOram_c _ A n c zs H.out).mono ?_
    rintro e w1 ⟨V, m, F, rfl, hm, ha, hl, hg1⟩
    obtain ⟨A0, n0, c0, A1, n1, c1, A2, n2, c2, rfl⟩ := coram_oform ha
    have HM := Lib.hid hm
    obtain ⟨gO, hgO⟩ : ∃ x, w1.heap.size = x := ⟨_, rfl⟩
    obtain ⟨w2, hw2⟩ : ∃ x : World, w1.alloc (.cells #[.slice A0 n0 c0, .slice A1 n1 c1, .slice A2 n2 c2] 36) = x := ⟨_, rfl⟩
    have HA : Hid (AggO w2 (coram m) F (.agg #[.slice A0 n0 c0, .slice A1 n1 c1, .slice A2 n2 c2])) := by rw [← hw2]; exact Lib.hid (ha.grow (gbA (gbR _ _) _))
    have BO : Hid (Blk w2 gO 36 #[.slice A0 n0 c0, .slice A1 n1 c1, .slice A2 n2 c2]) := by rw [← hw2, ← hgO]; exact Lib.hid (Blk.new _ _ _)
    have GO : Hid (w.heap.size ≤ gO) := by rw [← hgO]; exact Lib.hid hg1.size
    have G2 : Hid (w.grownBy w2 none) := by rw [← hw2]; exact Lib.hid (gbA hg1 _)
    clear ha hl hg1 hm
    go_wp2_with fail
    try rw [hw2]
    try rw [hgO]
    clear hw2 hgO
    refine (DrawPlaces_c _ A n c zs (H.out.grow G2.out)).mono ?_
    rintro e w3 ⟨v, qs, rfl, hown, hq, hg⟩
    obtain ⟨B, d, rfl, _, _⟩ := own_form hown
    have HI := Lib.hid (show Ints w3 B 12 qs from Rd.ofOwn hown)
    have HQ := Lib.hid hq
    have HA3 := Lib.hid (HA.out.grow hg)
    have BO3 := Lib.hid (BO.out.grow hg)
    have G3 := Lib.hid (gbT G2.out hg)
    obtain ⟨qb, qo, rfl, hqb, hqc⟩ := HI.out.at_ (by omega)
    have HQC := Lib.hid hqc
    have QB := Lib.hid (hown.lt qb rfl)
    have OL := Lib.hid BO.out.lt
    have FL := Lib.hid (HA.out.lt)
    have GL := Lib.hid (show w.heap.size ≤ gO from GO.out)
    clear hown hq hg HA BO G2 H hqc
    obtain ⟨o0, o1, o2⟩ := BO3.out.ld3
    obtain ⟨y, hy⟩ : ∃ y : World, w3.alloc (.cells #[] 3) = y := ⟨_, rfl⟩
    have OW : Hid (y.ownsRow w3.heap.size 3 1 (.slice (some ⟨w3.heap.size, 0, none⟩) 0 0) 0 ((wants m 0).map (Value.int .i64))) := by
      rw [← hy]
      exact Lib.hid (World.ownsRow_made (e := 3) (size := 1) (base := w3.heap.size) w3 #[] 0 (Nat.le_refl _) (by simp) rfl)
    have GY : Hid (w3.grownBy y none) := by rw [← hy]; exact Lib.hid (gbA (gbR _ _) _)
    go_wp2_with fail
    try rw [hy]
    clear o0 o1 o2
    obtain ⟨s3, hs3⟩ : ∃ s, w3.heap.size = s := ⟨_, rfl⟩
    rw [hs3] at OW QB
    try rw [hs3]
    clear hy
    go_loopw [5, 6] (fun s i wr => ∃ k : Nat, k ≤ 12 ∧ i = .int .i64 k ∧ Hid (wr.ownsRow s3 3 1 s k ((wants m k).map (Value.int .i64))) ∧ Hid (w3.grownBy wr none)) (fun _ i _ => 12 - (intOf i).toNat)
    case atStart => exact ⟨0, by omega, rfl, OW, GY⟩
    case round =>
      clear OW GY
      obtain ⟨k, hk, rfl, hown, hG⟩ := hrel
      by_cases hlt : k < 12
      · have i1 : (k : Int) < 12 := by omega
        obtain ⟨o0, o1, o2⟩ := (BO3.out.grow hG.out).ld3
        have HAG := Lib.hid (AggO.rd (HA3.out.grow hG.out))
        have VO : Hid (valO m (k : Int) = oval m (k : Int)) := Lib.hid (valO_yes (oramB_yes HM.out) (by omega) (by omega))
        have WS := Lib.hid (wants_succ m k)
        go_wp2_with fail
        refine (specOramValue_c m _ k wr HAG.out (by have := HM.out.szle; omega)).mono ?_
        rintro e x1 ⟨rfl, g1⟩
        rw [VO.out]
        obtain ⟨ov, hov⟩ : ∃ v, oval m (k : Int) = v := ⟨_, rfl⟩
        rw [hov] at WS ⊢
        have hown2 := own_grow hown.out g1
        have hG2 := Lib.hid (gbT hG.out g1)
        have hsz := hG2.out.size
        clear hown hG g1 hov VO o0 o1 o2
        go_wp2_with (at_builtin; refine wp_append1 x1 el_int rfl (.tmp 26) (.tmp 30) rfl _ rfl (by simp [Value.oneCell']) s3 _ k _ hown2 rfl rfl (by unfold maxLen; omega) (by omega) (by omega) ?_; intro v' x2 hown3 hgrow)
        have h1 := Lib.hid (show x2.ownsRow s3 3 1 v' (k + 1) ((wants m (k + 1)).map (Value.int .i64)) by rw [WS.out]; simpa using hown3)
        have h2 := Lib.hid (gbN hG2.out hgrow fun z e => by have := (hown2.lt z e).1; omega)
        clear hown3 hgrow hown2
        go_wp2_with fail
        go_roundw
        case rel => exact ⟨k + 1, by omega, by go_num, h1.out, h2.out⟩
        case measure => simp [intOf]; omega
      · have hk12 : k = 12 := by omega
        subst hk12
        obtain ⟨gw, cw, rfl, hcw, _⟩ := own_form2 hown.out (by omega)
        have LW := Lib.hid (hown.out.lt gw rfl)
        have I0 : Hid (MemI gO gw cw wr) := Lib.hid ⟨m, F, _, _, _, _, _, _, _, _, _, HM.out, HA3.out.grow hG.out, BO3.out.grow hG.out, fun e => by have := FL.out gw e; have := LW.out; have := QB.out; omega, agg_ne (HA3.out.grow hG.out) (BO3.out.grow hG.out), own_base hown.out (Nat.zero_le _)⟩
        have ngw : gO ≠ gw := by have := LW.out; have := QB.out; have := OL.out; omega
        have C0 : Hid (Chg (fun z => z = gO ∨ s3 ≤ z) w3 wr) := Lib.hid (Chg.of hG.out (by simp))
        clear hown hG HA3 BO3 HM FL
        rw [show (((12 : Nat)) : Int) = 12 from rfl]
        go_wp2_with fail
        go_loopw [7] (fun q wr => ∃ k : Nat, k ≤ 10 ∧ q = .int .i64 k ∧ Hid (MemI gO gw cw wr) ∧ Hid (Chg (fun z => z = gO ∨ s3 ≤ z) w3 wr)) (fun q _ => 10 - (intOf q).toNat)
        case atStart => exact ⟨0, by omega, rfl, I0, C0⟩
        case round =>
          clear I0 C0
          obtain ⟨k, hk, rfl, hI, hC⟩ := hrel
          have QQ : Hid (∀ j, j < 12 → wr.cell? ⟨qb, qo + j, none⟩ = some (.int .i64 (qs.getD j 0))) := Lib.hid (fun j hj => hC.out.cell (HQC.out j hj) (by rw [hs3]; exact QB.out.2) (fun e => by have := QB.out; have := OL.out; omega))
          by_cases hlt : k < 10
          · have i1 : (k : Int) < 10 := by omega
            obtain ⟨j3, e3⟩ : ∃ j3 : Nat, ((k : Int) + 3) % 12 = (j3 : Int) := ⟨(k + 3) % 12, by omega⟩
            have hj3 : j3 < 12 := by omega
            have c0 := QQ.out k (by omega)
            have c1 := QQ.out (k + 1) (by omega)
            have c2 := QQ.out (k + 2) (by omega)
            have c3 := QQ.out j3 (by omega)
            have p0 := HQ.out.at_ k (by omega)
            have p2 := HQ.out.at_ (k + 2) (by omega)
            have p3 := HQ.out.at_ j3 (by omega)
            have p1 := HQ.out.at_ (k + 1) (by omega)
            obtain ⟨x0, hx0⟩ : ∃ x, qs.getD k 0 = x := ⟨_, rfl⟩
            obtain ⟨x1, hx1⟩ : ∃ x, qs.getD (k + 1) 0 = x := ⟨_, rfl⟩
            obtain ⟨x2, hx2⟩ : ∃ x, qs.getD (k + 2) 0 = x := ⟨_, rfl⟩
            obtain ⟨x3, hx3⟩ : ∃ x, qs.getD j3 0 = x := ⟨_, rfl⟩
            rw [hx0] at c0 p0
            rw [hx1] at c1 p1
            rw [hx2] at c2 p2
            rw [hx3] at c3 p3
            obtain ⟨mj, Fj, E0, e0n, e0c, E1, e1n, e1c, E2, e2n, e2c, hmj, haj, hbj, hgj, hoj, hwj⟩ := hI.out
            have HMJ := Lib.hid hmj
            have HAJ := Lib.hid haj
            have HBJ := Lib.hid hbj
            have HWJ := Lib.hid hwj
            have K2 := Lib.hid c2
            have K3 := Lib.hid c3
            have r0 := Int.emod_nonneg x0 (b := 12) (by omega)
            have r0' := Int.emod_lt_of_pos x0 (b := 12) (by omega)
            have r3 := Int.emod_nonneg x3 (b := 8) (by omega)
            have r3' := Int.emod_lt_of_pos x3 (b := 8) (by omega)
            obtain ⟨z, hz⟩ : ∃ z, x0 % 12 = z := ⟨_, rfl⟩
            rw [hz] at r0 r0'
            obtain ⟨i, rfl⟩ := Int.eq_ofNat_of_zero_le r0
            have i2 : (k : Int) + 1 < 12 := by omega
            have i3 : (k : Int) + 2 < 12 := by omega
            have i4 : (j3 : Int) < 12 := by omega
            have i5 : (k : Int) < 12 := by omega
            have ii : 0 ≤ (i : Int) ∧ (i : Int) ≤ 11 := by omega
            have rl : 0 ≤ x3 % 8 ∧ x3 % 8 ≤ 7 := by omega
            have rv : 0 ≤ x2 ∧ x2 ≤ 4294967295 := by omega
            obtain ⟨lf, hlf⟩ : ∃ l, x3 % 8 = l := ⟨_, rfl⟩
            rw [hlf] at rl
            obtain ⟨b, hb⟩ : ∃ b : Bool, (x1 % 2 == 0) = b := ⟨_, rfl⟩
            clear c2 c3 hx0 hx1 hx2 hx3 r3 r3' hI r0 hmj haj hbj hwj
            have HC := hC
            clear hC
            go_wp2_with fail
            try rw [hz]
            try rw [hb]
            clear hz hb
            refine region_reg6 [onT 49 (isV (.agg #[.slice E0 e0n e0c, .slice E1 e1n e1c, .slice E2 e2n e2c])), onT 50 (isV (.int .i64 i)), onT 51 (isV (.bool b)), onT 52 (isV (.slice (some ⟨qb, qo, none⟩) 12 d)), onT 53 (isV (.int .i64 k)), onT 54 (isV (.int .i64 ((k : Int) + 2))), onT 55 (isV (.pointer (some ⟨qb, qo + (k + 2), none⟩))), onT 56 (isV (.int .i64 x2)), onT 57 (isV (.slice (some ⟨qb, qo, none⟩) 12 d)), onT 58 (isV (.int .i64 k)), onT 59 (isV (.int .i64 ((k : Int) + 3))), onT 60 (isV (.int .i64 j3)), onT 61 (isV (.pointer (some ⟨qb, qo + j3, none⟩))), onT 62 (isV (.int .i64 x3)), onT 63 (isV (.int .i64 lf)), onT 64 (tupF wr.heap.size (acc mj (i : Int) b x2 lf) (accV mj (i : Int)) (mj.leaf (i : Int)) true), onT 48 (tupF wr.heap.size (acc mj (i : Int) b x2 lf) (accV mj (i : Int)) (mj.leaf (i : Int)) true), onT 65 (memF wr.heap.size (acc mj (i : Int) b x2 lf)), onT 66 (isV (.int .i64 (accV mj (i : Int)))), onT 67 (isV (.int .i64 (mj.leaf (i : Int)))), onT 68 (isV (.bool true)), onT 10 (ptAny wr.heap.size), onT 10 (ptM wr.heap.size (acc mj (i : Int) b x2 lf)), onT 11 (isV (.int .i64 (accV mj (i : Int)))), onT 12 (isV (.int .i64 (mj.leaf (i : Int)))), onT 13 (isV (.bool true))] [] (by kernel_rfl) (by kernel_rfl) (by kernel_rfl) (by simp [stablesF, stableF_on, isV_st, tupF_st, memF_st, ptAny_st, ptM_st]) ?_ ?_
            · simp only [hops6, and_true]
              refine ⟨?_, ?_, ?_, ?_, ?_, ?_, ?_, ?_, ?_, ?_, ?_, ?_, ?_, ?_, ?_, ?_, ?_, ?_, ?_, ?_, ?_, ?_, ?_, ?_, ?_, ?_⟩
              rotate_left 15
              · intro f w4 hG pre old hd
                have hg4 := gbT (gbD (gbR wr none)) (chgNil hG)
                have hs4 := hg4.size
                simp [depsF, bindE, List.filter_cons, bd_data, bd_chain, bd_guard, bd_phase, bd_text, bd_gc, fAt, onT_at, isV] at hd
                simp [puts, dsts, Act.put, hd]
                clear hd
                go_wp2_with fail
                refine (implOramAccess_ok mj HMJ.out _ (i : Int) x2 lf b w4 ii rv rl (AggO.rd (HAJ.out.grow hg4))).mono ?_
                rintro e w5 ⟨V, F, rfl, h1, h2, hw⟩
                have HT : Hid (memF wr.heap.size (acc mj (i : Int) b x2 lf) V w5) := Lib.hid ⟨F, h1, fun y hy => Nat.le_trans hs4 (h2 y hy)⟩
                clear h1 h2
                go_wp2_with fail
                exact ⟨_, rfl, ⟨V, rfl, HT.out⟩, Or.inl hw⟩
              · intro f w4 hG pre old hd
                simp [depsF, bindE, List.filter_cons, bd_data, bd_chain, bd_guard, bd_phase, bd_text, bd_gc, fAt, onT_at, isV] at hd
                obtain ⟨V, eV, hm⟩ := hd
                have HT := Lib.hid hm
                clear hm
                simp [puts, dsts, Act.put, eV]
                go_wp2_with fail
                exact ⟨_, rfl, ⟨V, rfl, HT.out⟩, Or.inl (gbR _ _)⟩
              · intro f w4 hG pre old hd
                simp [depsF, bindE, List.filter_cons, bd_data, bd_chain, bd_guard, bd_phase, bd_text, bd_gc, fAt, onT_at, isV] at hd
                obtain ⟨V, eV, hm⟩ := hd
                have HT := Lib.hid hm
                clear hm
                simp [puts, dsts, Act.put, eV]
                go_wp2_with fail
                exact ⟨_, rfl, HT.out, Or.inl (gbR _ _)⟩
              rotate_left 3
              · intro f w4 hG pre old hd
                have hg4 := gbT (gbD (gbR wr none)) (chgNil hG)
                have hs4 := hg4.size
                clear hd
                simp [puts, dsts, Act.put]
                go_wp2_with fail
                exact ⟨_, rfl, ⟨_, rfl, hs4, _, _, _, Blk.new w4 _ _⟩, Or.inl (gbA (gbR _ _) _)⟩
              · intro f w4 hG pre old hd
                have hg4 := gbT (gbD (gbR wr none)) (chgNil hG)
                simp [depsF, bindE, List.filter_cons, bd_data, bd_chain, bd_guard, bd_phase, bd_text, bd_gc, fAt, onT_at, isV] at hd
                obtain ⟨⟨g, eg, hlg, ca, cb, cc, B4⟩, ⟨F, ha, hl⟩, _⟩ := hd
                obtain ⟨B0, p0, s0', B1, p1, s1', B2, p2, s2', e0⟩ := coram_oform ha
                have hn := agg_ne ha B4
                have hOS : OSE wr.heap.size g (acc mj (i : Int) b x2 lf) (((w4.setCell ⟨g, 0, none⟩ (.slice B0 p0 s0')).setCell ⟨g, 1, none⟩ (.slice B1 p1 s1')).setCell ⟨g, 2, none⟩ (.slice B2 p2 s2')) := by
                  rw [e0] at ha
                  exact OS.made (cs := #[]) (fill3 B4 rfl _ _ _) (ha.chg (chgS3 w4 g _ _ _) (fun y hy e => hn (e ▸ hy))) hl hlg hn
                have hch := (chgS3 w4 g (.slice B0 p0 s0') (.slice B1 p1 s1') (.slice B2 p2 s2')).mono (T := fun b => wr.heap.size ≤ b) (fun y hy => by omega)
                have HO := Lib.hid hOS
                have HB4 := Lib.hid B4
                have b0 := B4.cell 0
                have b1 := B4.cell 1
                have b2 := B4.cell 2
                have f0 := B4.frozen 0
                have f1 := B4.frozen 1
                have f2 := B4.frozen 2
                simp at b0 b1 b2
                clear ha hl hn hOS B4
                simp [puts, dsts, Act.put, eg, e0]
                go_wp2_with fail
                refine ⟨rfl, ⟨.bool false, g, eg, HO.out⟩, Or.inr ⟨hch, ?_⟩⟩
                simp only [keeps, and_true, onT_at, isV]
                repeat' apply And.intro
                all_goals first
                  | exact fun _ h => h
                  | exact fun _ h => tupF.put h HB4.out _ _ _
                  | exact fun _ h => memF.put h HB4.out _ _ _
                  | exact fun _ h => ptAny.put h HB4.out _ _ _
                  | exact fun h => by simp at h
              · intro f w4 hG pre old hd
                simp [depsF, bindE, List.filter_cons, bd_data, bd_chain, bd_guard, bd_phase, bd_text, bd_gc, fAt, onT_at, isV] at hd
                have e1 := hd.1
                clear hd
                simp [puts, dsts, Act.put, e1]
                go_wp2_with fail
                exact ⟨_, rfl, by simp [fAt, onT_at, upd_some, isV], Or.inl (gbR _ _)⟩
              · intro f w4 hG pre old hd
                simp [depsF, bindE, List.filter_cons, bd_data, bd_chain, bd_guard, bd_phase, bd_text, bd_gc, fAt, onT_at, isV] at hd
                have e1 := hd.1
                clear hd
                simp [puts, dsts, Act.put, e1]
                go_wp2_with fail
                exact ⟨_, rfl, by simp [fAt, onT_at, upd_some, isV], Or.inl (gbR _ _)⟩
              · intro f w4 hG pre old hd
                simp [depsF, bindE, List.filter_cons, bd_data, bd_chain, bd_guard, bd_phase, bd_text, bd_gc, fAt, onT_at, isV] at hd
                have e1 := hd.1
                clear hd
                simp [puts, dsts, Act.put, e1]
                go_wp2_with fail
                exact ⟨_, rfl, by simp [fAt, onT_at, upd_some, isV], Or.inl (gbR _ _)⟩
              rotate_left 15
              · intro f w4 hG pre old hd
                simp [depsF, bindE, List.filter_cons, bd_data, bd_chain, bd_guard, bd_phase, bd_text, bd_gc, fAt, onT_at, isV] at hd
                obtain ⟨V, eV, hm⟩ := hd
                clear hm
                simp [puts, dsts, Act.put, eV]
                go_wp2_with fail
                exact ⟨_, rfl, by simp [fAt, onT_at, upd_some, isV], Or.inl (gbR _ _)⟩
              · intro f w4 hG pre old hd
                simp [depsF, bindE, List.filter_cons, bd_data, bd_chain, bd_guard, bd_phase, bd_text, bd_gc, fAt, onT_at, isV] at hd
                obtain ⟨V, eV, hm⟩ := hd
                clear hm
                simp [puts, dsts, Act.put, eV]
                go_wp2_with fail
                exact ⟨_, rfl, by simp [fAt, onT_at, upd_some, isV], Or.inl (gbR _ _)⟩
              · intro f w4 hG pre old hd
                simp [depsF, bindE, List.filter_cons, bd_data, bd_chain, bd_guard, bd_phase, bd_text, bd_gc, fAt, onT_at, isV] at hd
                obtain ⟨V, eV, hm⟩ := hd
                clear hm
                simp [puts, dsts, Act.put, eV]
                go_wp2_with fail
                exact ⟨_, rfl, by simp [fAt, onT_at, upd_some, isV], Or.inl (gbR _ _)⟩
              all_goals
                intro f w4 hG pre old hd
                have hg4 := gbT (gbD (gbR wr none)) (chgNil hG)
                obtain ⟨o0, o1, o2⟩ := (HBJ.out.grow hg4).ld3; have k1 := gbk hg4 K2.out; have k2 := gbk hg4 K3.out
                simp [depsF, bindE, List.filter_cons, bd_data, bd_chain, bd_guard, bd_phase, bd_text, bd_gc, fAt, onT_at, isV] at hd
                first | simp [puts, dsts, Act.put, hd] | simp [puts, dsts, Act.put]
                clear hd
                go_wp2_with fail
                exact ⟨_, rfl, by simp [fAt, onT_at, upd_some, isV], Or.inl (gbR _ _)⟩
            intro f y1 hG hd
            have G1 := Lib.hid (gbT (gbD (gbR wr none)) (chgNil hG))
            simp [knowsF, onT_at, isV] at hd
            obtain ⟨r0_, r1_, r2_, r3_, r4_, r5_, r6_, r7_, r8_, r9_, ra_, rb_, rc_, rd_, re_, ⟨VC_, eC_, _⟩, ⟨VM_, eM_, _⟩, _, e1_, e2_, e3_, _, ⟨gA_, eA_, hA_⟩, a1_, a2_, a3_⟩ := hd
            have HO_ := Lib.hid hA_
            obtain ⟨v0_, ev0_⟩ : ∃ v, f 65 = v := ⟨_, rfl⟩
            simp only [puts, dsts, Act.put, r0_, r1_, r2_, r3_, r4_, r5_, r6_, r7_, r8_, r9_, ra_, rb_, rc_, rd_, re_, eC_, eM_, e1_, e2_, e3_, eA_, a1_, a2_, a3_, ev0_, List.filterMap_cons, List.filterMap_nil, List.setIfInBounds_toArray, List.set_cons_zero, List.set_cons_succ]
            clear hG hA_ eC_ eM_ e1_ e2_ e3_ eA_ a1_ a2_ a3_ ev0_
            have M2 := Lib.hid (acc_okw (write := b) HMJ.out ii rv rl)
            have AV := accV_is (id := (i : Int)) HMJ.out
            rw [AV]
            have hwl := (HWJ.out.lt gw rfl).2
            have hol := HBJ.out.lt
            have cw0 : wr.cell? ⟨gw, i, none⟩ = some (.int .i64 (oval mj (i : Int))) := by
              rw [HWJ.out.cellAt i (by omega), List.getElem?_map, wants_at mj (by omega)]
              rfl
            obtain ⟨ov, hov⟩ : ∃ v, oval mj (i : Int) = v := ⟨_, rfl⟩
            rw [hov] at cw0 ⊢
            have WN : Hid (wants (acc mj (i : Int) b x2 lf) 12 = if b then (wants mj 12).set i x2 else wants mj 12) := by
              cases b
              · exact Lib.hid (wants_read HMJ.out)
              · exact Lib.hid (wants_write HMJ.out)
            obtain ⟨m2, hm2⟩ : ∃ x, acc mj (i : Int) b x2 lf = x := ⟨_, rfl⟩
            rw [hm2] at M2 HO_ WN
            obtain ⟨B0, p0', s0, B1, s1, B2, s2, F0, F1, F2, hOS⟩ := OSE.forms HO_.out
            have HS1 := Lib.hid hOS
            obtain ⟨v0, v1, v2⟩ := hOS.blk.ld3
            have cw1 := gbk G1.out cw0
            have i6 : (i : Int) < 12 := by omega
            clear AV hov hm2 hOS cw0 HO_
            go_wp2_with fail
            refine (implOramOk_c m2 _ y1 (AggO.rd HS1.out.agg.1) (by have := M2.out.szle; omega)).mono ?_
            rintro e y2 ⟨rfl, g2⟩
            rw [oramB_yes M2.out]
            have HS2 := Lib.hid (HS1.out.grow g2)
            have GG := Lib.hid (gbT G1.out g2)
            have WJ2 := Lib.hid (own_grow HWJ.out GG.out)
            have BJ2 := Lib.hid (HBJ.out.grow GG.out)
            have K22 := gbk GG.out K2.out
            have cw2 := gbk g2 cw1
            have fw2 := WJ2.out.frozenAt i
            have nF : ∀ z, z < wr.heap.size → z ∉ [F0, F1, F2].flatten := fun z hz e => by have := HS1.out.agg.2 z e; omega
            have HNF := Lib.hid nF
            have gAl : wr.heap.size ≤ gA_ := HS1.out.lg
            have nA : gA_ ≠ gO := by omega
            have nA' : gO ≠ gA_ := by omega
            have nAw : gA_ ≠ gw := by omega
            have nAw' : gw ≠ gA_ := by omega
            have ngw' : gw ≠ gO := fun e => ngw e.symm
            clear g2 v0 v1 v2 cw1 nF
            obtain ⟨v0, v1, v2⟩ := HS2.out.blk.ld3
            obtain ⟨o0, o1, o2⟩ := BJ2.out.ld3
            have f0 := BJ2.out.frozen 0
            have f1 := BJ2.out.frozen 1
            have f2 := BJ2.out.frozen 2
            cases b with
            | false =>
              have hch := chgS3 y2 gO (.slice B0 p0' s0) (.slice B1 m2.st.length s1) (.slice B2 m2.pos.length s2)
              have I7 : Hid (MemI gO gw cw (((y2.setCell ⟨gO, 0, none⟩ (.slice B0 p0' s0)).setCell ⟨gO, 1, none⟩ (.slice B1 m2.st.length s1)).setCell ⟨gO, 2, none⟩ (.slice B2 m2.pos.length s2))) := by
                refine Lib.hid ⟨m2, _, _, _, _, _, _, _, _, _, _, M2.out, HS2.out.agg.1.chg hch (fun z hz e => HNF.out gO hol (e ▸ hz)), fill3 BJ2.out rfl _ _ _, HNF.out gw hwl, HNF.out gO hol, ?_⟩
                rw [WN.out]
                exact Chg.own WJ2.out hch (fun z hz e => by simp [Value.ownBlock] at hz; omega)
              have C7 : Hid (Chg (fun z => z = gO ∨ s3 ≤ z) w3 _) := Lib.hid ((HC.out.trans (Chg.of GG.out (by simp))).trans (hch.mono (fun z hz => .inl hz)))
              clear hch
              go_wp2_with fail
              go_roundw
              case rel => exact ⟨k + 1, by omega, by go_num, I7, C7⟩
              case measure => simp [intOf]; omega
            | true =>
              have hc1 := chgS y2 gw i (.int .i64 x2)
              have hch := chgS3 (y2.setCell ⟨gw, i, none⟩ (.int .i64 x2)) gO (.slice B0 p0' s0) (.slice B1 m2.st.length s1) (.slice B2 m2.pos.length s2)
              have BJ3 := Lib.hid (BJ2.out.chg hc1 (fun e => ngw e))
              have hs3' : s3 ≤ gw := LW.out.1
              have I7 : Hid (MemI gO gw cw ((((y2.setCell ⟨gw, i, none⟩ (.int .i64 x2)).setCell ⟨gO, 0, none⟩ (.slice B0 p0' s0)).setCell ⟨gO, 1, none⟩ (.slice B1 m2.st.length s1)).setCell ⟨gO, 2, none⟩ (.slice B2 m2.pos.length s2))) := by
                refine Lib.hid ⟨m2, _, _, _, _, _, _, _, _, _, _, M2.out, (HS2.out.agg.1.chg hc1 (fun z hz e => HNF.out gw hwl (e ▸ hz))).chg hch (fun z hz e => HNF.out gO hol (e ▸ hz)), fill3 BJ3.out rfl _ _ _, HNF.out gw hwl, HNF.out gO hol, ?_⟩
                rw [WN.out]
                have h8 := (WJ2.out.stored i (.int .i64 x2)).1
                rw [← List.map_set] at h8
                exact Chg.own h8 hch (fun z hz e => by simp [Value.ownBlock] at hz; omega)
              have C7 : Hid (Chg (fun z => z = gO ∨ s3 ≤ z) w3 _) := Lib.hid (((HC.out.trans (Chg.of GG.out (by simp))).trans (hc1.mono (fun z hz => .inr (by omega)))).trans (hch.mono (fun z hz => .inl hz)))
              clear hc1 hch
              go_wp2_with fail
              go_roundw
              case rel => exact ⟨k + 1, by omega, by go_num, I7, C7⟩
              case measure => simp [intOf]; omega
          · have hk10 : k = 10 := by omega
            subst hk10
            obtain ⟨mj, Fj, E0, e0n, e0c, E1, e1n, e1c, E2, e2n, e2c, hmj, haj, hbj, hgj, hoj, hwj⟩ := hI.out
            have HMJ := Lib.hid hmj
            have HAJ := Lib.hid haj
            have HBJ := Lib.hid hbj
            have HWJ := Lib.hid hwj
            have HC := hC
            have LO := GL.out
            have GE := Lib.hid (gbChg G3.out hC.out (fun z hz => by have := G3.out.size; rcases hz with hz | hz <;> omega))
            clear hmj haj hbj hwj hI hC
            rw [show (((10 : Nat)) : Int) = 10 from rfl]
            go_wp2_with fail
            obtain ⟨wo, rfl⟩ : ∃ wo : World, wo = wr := ⟨_, rfl⟩
            go_loopw [14] (fun q wr => ∃ k : Nat, k ≤ 12 ∧ q = .int .i64 k ∧ Hid (wo.grownBy wr none)) (fun q _ => 12 - (intOf q).toNat)
            case atStart => exact ⟨0, by omega, rfl, Lib.hid (gbR _ _)⟩
            case round =>
              obtain ⟨k, hk, rfl, hG⟩ := hrel
              by_cases hlt2 : k < 12
              · have i1 : (k : Int) < 12 := by omega
                have VO : Hid (valO mj (k : Int) = oval mj (k : Int)) := Lib.hid (valO_yes (oramB_yes HMJ.out) (by omega) (by omega))
                have cw0 : wr.cell? ⟨gw, k, none⟩ = some (.int .i64 (oval mj (k : Int))) := gbk hG.out (by
                  rw [HWJ.out.cellAt k (by omega), List.getElem?_map, wants_at mj (by omega)]
                  rfl)
                obtain ⟨ov, hov⟩ : ∃ v, oval mj (k : Int) = v := ⟨_, rfl⟩
                rw [hov] at cw0 VO
                have CW := Lib.hid cw0
                have BW := Lib.hid (HBJ.out.grow hG.out)
                have AW := Lib.hid (HAJ.out.grow hG.out)
                clear hov cw0
                go_wp2_with fail
                refine region_grow [isV (.agg #[.slice E0 e0n e0c, .slice E1 e1n e1c, .slice E2 e2n e2c]), isV (.int .i64 k), isV (.int .i64 ov), isV (.slice (some ⟨gw, 0, none⟩) 12 cw), isV (.int .i64 k), isV (.pointer (some ⟨gw, k, none⟩)), isV (.int .i64 ov), isV (.bool false)] (by kernel_rfl) (by kernel_rfl) (by kernel_rfl) (by simp [stables, isV_st]) ?_ ?_
                · simp only [hops, and_true]
                  refine ⟨?_, ?_, ?_, ?_, ?_, ?_, ?_, ?_⟩
                  all_goals
                    intro f w1 hG hd
                    have k0 := gbk (gbT (gbD (gbR _ _)) hG) (BW.out.ld3.1)
                    have k1 := gbk (gbT (gbD (gbR _ _)) hG) (BW.out.ld3.2.1)
                    have k2 := gbk (gbT (gbD (gbR _ _)) hG) (BW.out.ld3.2.2)
                    have k3 := gbk (gbT (gbD (gbR _ _)) hG) (CW.out)
                    simp [deps, tAt, isV] at hd
                    first | simp [puts, dsts, Act.put, hd] | simp [puts, dsts, Act.put]
                    clear hd
                    go_wp2_with ((go_at_call 34; refine (implOramValue_c mj _ k _ (AggO.rd (AW.out.grow (gbT (gbD (gbR _ none)) hG))) (by have := HMJ.out.szle; omega)).mono ?_; rintro e w6 ⟨rfl, hw⟩; rw [VO.out]))
                  all_goals exact ⟨_, rfl, by first | with_reducible exact gbR _ _ | exact hw, by first | (simp [tAt, isV]; done) | (simp [tAt, isV]; assumption)⟩
                intro f w5 hG hd
                simp [knows, tAt, isV] at hd
                obtain ⟨h0_, h1_, h2_, h3_, h4_, h5_, h6_, h7_⟩ := hd
                simp only [puts, dsts, Act.put, h0_, h1_, h2_, h3_, h4_, h5_, h6_, h7_, List.filterMap_cons, List.filterMap_nil, List.setIfInBounds_toArray, List.set_cons_zero, List.set_cons_succ]
                clear h0_ h1_ h2_ h3_ h4_ h5_ h6_ h7_
                have g5 := gbT (gbD (gbR _ none)) hG
                clear hG
                have G7 := Lib.hid (gbT hG.out g5)
                go_wp2_with fail
                go_roundw
                case rel => exact ⟨k + 1, by omega, by go_num, G7⟩
                case measure => simp [intOf]; omega
              · have hk12 : k = 12 := by omega
                subst hk12
                have GZ := Lib.hid (gbT GE.out hG.out)
                go_wp2_with fail
                go_ret
                exact ⟨rfl, GZ.out⟩
end Go.Proofs.Ythncoohkdmjcaaa
