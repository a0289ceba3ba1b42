/-
  FnArithmetics: the walk.
-/
import Derived.Test.YtapljpcpmdlppaaMgFnArithmetics37
import Derived.Test.YtapljpcpmdlppaaMgFnArithmetics40
import Derived.Test.YtapljpcpmdlppaaMgFnArithmetics41
import Derived.Test.YtapljpcpmdlppaaMgFnArithmetics42
import Derived.Test.YtapljpcpmdlppaaMgFnArithmetics43
namespace Go.Proofs.Ytapljpcpmdlppaa
open Go.RowKit
set_option linter.unusedVariables false
set_option linter.unusedSimpArgs false
/-- A slice of n elements. -/
def isSl (n : Nat) (v : Value) (_ : World) : Prop := ∃ A c, v = .slice A n c
theorem isSl_st {n : Nat} : stable (isSl n) := fun _ _ _ h _ => h
def slA : Value → Option Addr
  | .slice A _ _ => A
  | _ => none
def slC : Value → Nat
  | .slice _ _ c => c
  | _ => 0
theorem isSl_eq {n : Nat} {v : Value} {w : World} (h : isSl n v w) : v = .slice (slA v) n (slC v) := by
  obtain ⟨A, c, rfl⟩ := h
  rfl
theorem AOk.wf {m : AM} (h : AOk m) : m.wf := by
  obtain ⟨hp1, hp2⟩ := field_range h.fld
  refine ⟨⟨by omega, by omega⟩, fun z hz => ?_, fun z hz => ?_⟩
  · obtain ⟨j, hj⟩ := List.mem_iff_getElem?.1 hz
    have hlt := (List.getElem?_eq_some_iff.1 hj).1
    have hs := h.steps j hlt
    have he : stAt m j = z := by unfold stAt; rw [List.getD_eq_getElem?_getD, hj]; rfl
    rw [he] at hs
    have hl := h.few
    obtain ⟨x, y, u⟩ := z
    simp only [stepB] at hs
    unfold w3 i64w
    simp only
    split at hs
    · simp [inB] at hs; omega
    · split at hs
      · have := elemB_is (p := m.p) (a := y) (by simp at hs; exact hs.1)
        simp at hs
        omega
      · split at hs
        · simp [inB] at hs; omega
        · cases hs
  · have hs := h.outs z hz
    have hl := h.few
    simp [inB] at hs
    unfold i64w
    omega
set_option maxHeartbeats 40000000 in
set_option maxRecDepth 1000000 in
theorem FnArithmetics.walk (w : World) (A : Option Addr) (n c : Nat) (zs : List Int) (hz : IntsK .u8 w A n zs) (hm : n ≤ maxLen) :
    Calls Try.prog 11 #[.slice A n c] w fun e w' => e = .returned (.bool true) ∧ w.grownBy w' none := by
  unfold maxLen at hm
  by_cases hbig : 1048576 < n
  · have hd : decide (1048576 < n) = true := by simp; omega
    go_enter Try.func11, Try.ntmps11
    go_wp2_with fail
    refine (big_c _ A n c (by omega)).mono ?_
    rintro e w1 ⟨rfl, rfl⟩
    go_wp2_with fail
    go_ret
    exact ⟨rfl, gbR _ _⟩
  · have hd : decide (1048576 < n) = false := by simp; omega
    have H := Lib.hid (bytesIn hz (by omega))
    clear hz
    go_enter Try.func11, Try.ntmps11
    go_wp2_with fail
    refine (big_c _ A n c (by omega)).mono ?_
    rintro e w1 ⟨rfl, rfl⟩
    rw [hd]
    clear hd hbig hm
    go_wp2_with fail
    refine (DrawArith_c _ A n c zs H.out).mono ?_
    rintro e w1 ⟨V, v, m, F, ins, rfl, hev, hp, hst, hou, ha, hl, ho, hg1⟩
    obtain ⟨A1, n1, s1, A2, n2, s2, rfl⟩ := carith_oform ha
    obtain ⟨gi, ci, rfl, hci, hgi⟩ := own_form2 ho (by omega)
    have EV := Lib.hid hev
    have WF := Lib.hid hev.ok.wf
    obtain ⟨gA, hgA⟩ : ∃ x, w1.heap.size = x := ⟨_, rfl⟩
    obtain ⟨w2, hw2⟩ : ∃ x : World, w1.alloc (.cells #[.int .i64 m.p, .slice A1 n1 s1, .slice A2 n2 s2] 30) = x := ⟨_, rfl⟩
    have HA : Hid (AggR w2 (carith m) (.agg #[.int .i64 m.p, .slice A1 n1 s1, .slice A2 n2 s2])) := by rw [← hw2]; exact Lib.hid (AggO.rd (ha.grow (gbA (gbR _ _) _)))
    have HI : Hid (Ints w2 (some ⟨gi, 0, none⟩) 60 ins) := by rw [← hw2]; exact Lib.hid (Ints.grow (show Ints w1 (some ⟨gi, 0, none⟩) 60 ins from Rd.ofOwn ho) (gbA (gbR _ _) _))
    have BO : Hid (Blk w2 gA 30 #[.int .i64 m.p, .slice A1 n1 s1, .slice A2 n2 s2]) := by rw [← hw2, ← hgA]; exact Lib.hid (Blk.new _ _ _)
    have G2 : Hid (w.grownBy w2 none) := by rw [← hw2]; exact Lib.hid (gbA hg1 _)
    have n1L : n1 = m.st.length := by
      obtain ⟨u1, u2, F1, F2, e, _, h1, _⟩ := carith_oopen ha
      obtain ⟨A', c', e', _⟩ := csteps_form h1
      injection e with e
      injection e with e
      injection e with _ e
      injection e with e _
      rw [e'] at e
      injection e
    have N1 := Lib.hid n1L
    clear n1L
    clear ha hl ho hg1 hev
    have b0 := BO.out.cell 0
    have b1 := BO.out.cell 1
    have b2 := BO.out.cell 2
    simp at b0 b1 b2
    go_wp2_with fail
    try rw [hw2]
    try rw [hgA]
    clear hw2 hgA b0 b1 b2
    refine (implEvalArith_c m _ (some ⟨gi, 0, none⟩) 60 ci ins w2 HA.out WF.out HI.out (by omega) (by omega)).mono ?_
    rintro e w3 ⟨V3, rfl, o3, g3⟩
    rw [evB_yes EV.out]
    have ER : Hid ((evR m ins).length ≤ 3) := Lib.hid (by have := evR_len m ins; omega)
    obtain ⟨xs, hxs⟩ : ∃ l, evR m ins = l := ⟨_, rfl⟩
    rw [hxs] at o3 ER
    obtain ⟨A3, c3, rfl, _, _⟩ := own_form o3
    have I3 := Lib.hid (show Ints w3 A3 xs.length xs from Rd.ofOwn o3)
    have HXS := Lib.hid hxs
    have HA3 := Lib.hid (HA.out.grow g3)
    have HI3 := Lib.hid (Ints.grow HI.out g3)
    have BO3 := Lib.hid (BO.out.grow g3)
    have G3 := Lib.hid (gbT G2.out g3)
    obtain ⟨b0, b1, b2⟩ := (show w3.cell? ⟨gA, 0, none⟩ = some (.int .i64 m.p) ∧ w3.cell? ⟨gA, 1, none⟩ = some (.slice A1 n1 s1) ∧ w3.cell? ⟨gA, 2, none⟩ = some (.slice A2 n2 s2) from ⟨by simpa using BO3.out.cell 0, by simpa using BO3.out.cell 1, by simpa using BO3.out.cell 2⟩)
    clear o3 g3 HA HI BO G2 hxs
    go_wp2_with fail
    refine (implRoundsOf_c m _ w3 HA3.out WF.out).mono ?_
    rintro e w4 ⟨rfl, g4⟩
    obtain ⟨rb0, rb1⟩ := rounds_bd m
    obtain ⟨r, hr⟩ := Int.eq_ofNat_of_zero_le rb0
    rw [hr]
    have HR := Lib.hid hr
    have hr60 : r ≤ 60 := by omega
    have G4 := Lib.hid g4
    have TZ : Hid (∀ q, q ≤ r → (totTo m (mdepth m).length q) ≤ 60) := Lib.hid (fun q hq => by
      have h1 := totTo_le m hq
      have h2 := tot_is EV.out.ok hr
      have h3 := muls_le m.st m.st.length
      omega)
    clear g4 rb0 rb1 hr b0 b1 b2
    go_wp2_with fail
    go_loopw [7, 9] (fun s q wr => ∃ k : Nat, k ≤ r ∧ q = .int .i64 ((k : Int) + 1) ∧ s = .int .i64 (totTo m (mdepth m).length k : Nat) ∧ Hid (w3.grownBy wr none)) (fun _ q _ => r + 1 - (intOf q).toNat)
    case atStart => exact ⟨0, by omega, rfl, rfl, G4⟩
    case round =>
      clear G4
      obtain ⟨k, hk, rfl, rfl, hG⟩ := hrel
      obtain ⟨b0, b1, b2⟩ := (show wr.cell? ⟨gA, 0, none⟩ = some (.int .i64 m.p) ∧ wr.cell? ⟨gA, 1, none⟩ = some (.slice A1 n1 s1) ∧ wr.cell? ⟨gA, 2, none⟩ = some (.slice A2 n2 s2) from ⟨by simpa using (BO3.out.grow hG.out).cell 0, by simpa using (BO3.out.grow hG.out).cell 1, by simpa using (BO3.out.grow hG.out).cell 2⟩)
      by_cases hlt : k < r
      · have i1 : (k : Int) + 1 ≤ (r : Int) := by omega
        have PO := mulsAt_pos EV.out.ok (d := (k : Int) + 1) (by omega) (by have := HR.out; omega)
        have NX := Lib.hid (totTo_next m k)
        have b60 := TZ.out (k + 1) (by omega)
        rw [NX.out] at b60
        go_wp2_with fail
        refine (implMulsAt_c m ((k : Int) + 1) _ wr (HA3.out.grow hG.out) WF.out).mono ?_
        rintro e w5 ⟨V5, rfl, o5, g5⟩
        obtain ⟨A5, c5, rfl, _, _⟩ := own_form o5
        have G5 := Lib.hid (gbT hG.out g5)
        obtain ⟨L, hL⟩ : ∃ L, (mulsAt m ((k : Int) + 1)).length = L := ⟨_, rfl⟩
        obtain ⟨T, hT⟩ : ∃ T, totTo m (mdepth m).length k = T := ⟨_, rfl⟩
        rw [hL] at PO NX b60 ⊢
        rw [hT] at NX b60 ⊢
        have dL : ((L : Int) == 0) = false := by simp; omega
        clear o5 g5 hG hL hT
        go_wp2_with fail
        go_roundw
        case rel => exact ⟨k + 1, by omega, by go_num, by rw [NX.out]; go_num, G5⟩
        case measure => simp [intOf]; omega
      · have hkr : k = r := by omega
        subst hkr
        rw [tot_is EV.out.ok HR.out]
        go_wp2_with fail
        refine (specEvalArith_c m _ (some ⟨gi, 0, none⟩) 60 ci ins wr (HA3.out.grow hG.out) WF.out (Ints.grow HI3.out hG.out) (by omega) (by omega)).mono ?_
        rintro e w5 ⟨V5, rfl, o5, g5⟩
        rw [evB_yes EV.out]
        rw [HXS.out] at o5
        obtain ⟨A5, c5, rfl, _, _⟩ := own_form o5
        have I5 := Lib.hid (show Ints w5 A5 xs.length xs from Rd.ofOwn o5)
        have GG := Lib.hid (gbT hG.out g5)
        have AGG := Lib.hid (HA3.out.grow GG.out)
        have I6 := Lib.hid (Ints.grow I3.out GG.out)
        have BO5 := BO3.out.grow GG.out
        have B0 : Hid (w5.cell? ⟨gA, 0, none⟩ = some (.int .i64 m.p)) := Lib.hid (by simpa using BO5.cell 0)
        have B1 : Hid (w5.cell? ⟨gA, 1, none⟩ = some (.slice A1 n1 s1)) := Lib.hid (by simpa using BO5.cell 1)
        have B2 : Hid (w5.cell? ⟨gA, 2, none⟩ = some (.slice A2 n2 s2)) := Lib.hid (by simpa using BO5.cell 2)
        have W5 := Lib.hid (gbT G3.out GG.out)
        obtain ⟨M, hM⟩ : ∃ M, muls m.st m.st.length = M := ⟨_, rfl⟩
        have HM := Lib.hid hM
        have HML : Hid ((mdepth m).length = n1) := Lib.hid (by rw [mdepth_len EV.out.ok, N1.out])
        rw [hM]
        have AB := Lib.hid (arithB_yes EV.out.ok)
        clear o5 g5 hG BO5 b0 b1 b2 hM
        go_wp2_with fail
        refine region_grow [isV (.bool true), isV (.bool true), isV (.agg #[.int .i64 m.p, .slice A1 n1 s1, .slice A2 n2 s2]), isV (.bool true), isV (.bool true), isV (.bool true), isV (.int .i64 M), isV (.agg #[.int .i64 m.p, .slice A1 n1 s1, .slice A2 n2 s2]), isV (.int .i64 M), isV (.bool true), isV (.bool true), isV (.bool true), isV (.slice A3 xs.length c3), isV (.slice A5 xs.length c5), isV (.bool true), isV (.bool true), isV (.bool true), isV (.agg #[.int .i64 m.p, .slice A1 n1 s1, .slice A2 n2 s2]), isSl n1, isV (.int .i64 n1), isV (.pointer (some ⟨gA, 1, none⟩)), isV (.slice A1 n1 s1), isV (.int .i64 n1), isV (.bool true), isV (.bool true), isV (.bool true)] (by kernel_rfl) (by kernel_rfl) (by kernel_rfl) (by simp [stables, isV_st, isSl_st]) ?_ ?_
        · simp only [hops, and_true]
          refine ⟨?_, ?_, ?_, ?_, ?_, ?_, ?_, ?_, ?_, ?_, ?_, ?_, ?_, ?_, ?_, ?_, ?_, ?_, ?_, ?_, ?_, ?_, ?_, ?_, ?_, ?_⟩
          rotate_left 18
          · intro f w1 hG hd
            have hA6 := AGG.out.grow (gbT (gbD (gbR _ none)) hG)
            have k0 := gbk (gbT (gbD (gbR _ none)) hG) B0.out
            have k1 := gbk (gbT (gbD (gbR _ none)) hG) B1.out
            have k2 := gbk (gbT (gbD (gbR _ none)) hG) B2.out
            have q3 := Ints.grow I6.out (gbT (gbD (gbR _ none)) hG)
            have q5 := Ints.grow I5.out (gbT (gbD (gbR _ none)) hG)
            simp [deps, tAt, isV] at hd
            first | simp [puts, dsts, Act.put, hd] | simp [puts, dsts, Act.put]
            clear hd
            go_wp2_with fail
            refine (implMulDepth_c m _ w1 hA6 WF.out).mono ?_
            rintro e w6 ⟨V6, rfl, o6, hw⟩
            rw [HML.out] at o6
            obtain ⟨A7, c7, rfl, _, _⟩ := own_form o6
            clear o6
            go_wp2_with fail
            exact ⟨.slice A7 n1 c7, rfl, hw, (⟨A7, c7, rfl⟩ : isSl n1 _ _)⟩
          · intro f w1 hG hd
            simp [deps, tAt, isV] at hd
            have e7 := isSl_eq hd.1
            have e65 := hd.2
            clear hd
            generalize slA (f 67) = A7 at e7
            generalize slC (f 67) = c7 at e7
            simp [puts, dsts, Act.put, e7, e65]
            clear e7 e65
            go_wp2_with fail
            exact ⟨.int .i64 n1, rfl, gbR _ _, rfl⟩
          all_goals
            intro f w1 hG hd
            have hA6 := AGG.out.grow (gbT (gbD (gbR _ none)) hG)
            have k0 := gbk (gbT (gbD (gbR _ none)) hG) B0.out
            have k1 := gbk (gbT (gbD (gbR _ none)) hG) B1.out
            have k2 := gbk (gbT (gbD (gbR _ none)) hG) B2.out
            have q3 := Ints.grow I6.out (gbT (gbD (gbR _ none)) hG)
            have q5 := Ints.grow I5.out (gbT (gbD (gbR _ none)) hG)
            simp [deps, tAt, isV] at hd
            first | simp [puts, dsts, Act.put, hd] | simp [puts, dsts, Act.put]
            clear hd
            go_wp2_with (first | (go_at_call 40; refine (implArithOk_c m _ _ hA6 WF.out).mono ?_; rintro e w6 ⟨rfl, hw⟩; rw [AB.out]) | (go_at_call 24; refine (implCountMuls_c m _ _ hA6).mono ?_; rintro e w6 ⟨rfl, hw⟩; rw [HM.out]) | (go_at_call 50; refine (sameInts_c A3 A5 xs.length xs.length c3 c5 xs xs _ q3 q5 (by have := ER.out; omega) (by have := ER.out; omega)).mono ?_; rintro e w6 ⟨rfl, q6, rfl⟩; rw [beq_self_eq_true]; have hw := gbDN (gbR w1 none) q6))
            all_goals exact ⟨_, rfl, by first | with_reducible exact gbR _ _ | exact hw, by first | (simp [tAt, isV]; done) | (simp [tAt, isV]; assumption)⟩
        · intro f w6 hG hd
          simp [knows, tAt, isV] at hd
          obtain ⟨h0, h1, h2, h3, h4, h5, h6, h7, h8, h9, h10, h11, h12, h13, h14, h15, h16, h17, ⟨A7, c7, h18⟩, h19, h20, h21, h22, h23, h24, h25⟩ := hd
          have GZ := Lib.hid (gbT W5.out (gbT (gbD (gbR w5 none)) hG))
          simp only [puts, dsts, Act.put, h0, h1, h2, h3, h4, h5, h6, h7, h8, h9, h10, h11, h12, h13, h14, h15, h16, h17, h18, h19, h20, h21, h22, h23, h24, h25, List.filterMap_cons, List.filterMap_nil, List.setIfInBounds_toArray, List.set_cons_zero, List.set_cons_succ]
          clear h0 h1 h2 h3 h4 h5 h6 h7 h8 h9 h10 h11 h12 h13 h14 h15 h16 h17 h18 h19 h20 h21 h22 h23 h24 h25 hG
          go_wp2_with fail
          go_ret
          exact ⟨rfl, GZ.out⟩
end Go.Proofs.Ytapljpcpmdlppaa
