/-
  FnMajority: the walk.
-/
import Derived.Test.YthncoohkdmjcaaaMajPl
import Derived.Test.YthncoohkdmjcaaaMatO
import Derived.Test.YthncoohkdmjcaaaSubsets
import Derived.Test.YthncoohkdmjcaaaDraw
import Derived.Test.YthncoohkdmjcaaaRows16
namespace Go.Proofs.Ythncoohkdmjcaaa
open Go.RowKit
set_option linter.unusedVariables false
set_option linter.unusedSimpArgs false
theorem own_lit2 {w : World} {base : Nat} (hb : base ≤ w.heap.size) (u x : Value) (e : TypeId) : (w.alloc (.cells #[u, x] e)).ownsRow base e 1 (.slice (some ⟨w.heap.size, 0, none⟩) 2 2) 2 [u, x] :=
  ⟨rfl, .inr ⟨_, 2, #[u, x], rfl, hb, heap_alloc_new w _, Nat.le_refl _, by unfold maxLen; omega, rfl, rfl⟩⟩
theorem cints_lit2 (w : World) (x y : Int) : (cints [x, y]).own (w.alloc (.cells #[.int .i64 x, .int .i64 y] 3)) [w.heap.size] (.slice (some ⟨w.heap.size, 0, none⟩) 2 2) :=
  cints_own (n := 2) (base := w.heap.size) (own_lit2 (Nat.le_refl _) _ _ _)
theorem cints_lit1 (w : World) (x : Int) : (cints [x]).own (w.alloc (.cells #[.int .i64 x] 3)) [w.heap.size] (.slice (some ⟨w.heap.size, 0, none⟩) 1 1) :=
  cints_own (n := 1) (base := w.heap.size) (own_lit1 (Nat.le_refl _) _ _)
theorem MO.open_ {H : Nat} {w : World} {s : Value} {rows : List (List Int)} (h : MO H w s rows) : ∃ vs, w.ownsRow H 22 1 s rows.length vs ∧ RdAll w (rows.map cints) vs := by
  obtain ⟨F, ⟨n, vs, Fs, h1, h2, h3, h4, h5⟩, hF⟩ := h
  rw [cintss_flat] at h1 h3
  have : rows.length = n := by simpa using h1
  subst this
  exact ⟨vs, own_rebase h2 fun g hg => hF g (by rw [h4, hg]; simp), h3.rd⟩
theorem RdAll.drop {w : World} {cs : List CS} {vs : List Value} (h : RdAll w cs vs) (k : Nat) : RdAll w (cs.drop k) (vs.drop k) := by
  refine ⟨by simp [h.1], fun i c v hc hv => ?_⟩
  rw [List.getElem?_drop] at hc hv
  exact h.2 _ c v hc hv
theorem RdAll.take {w : World} {cs : List CS} {vs : List Value} (h : RdAll w cs vs) (k : Nat) : RdAll w (cs.take k) (vs.take k) := by
  refine ⟨by simp [h.1], fun i c v hc hv => ?_⟩
  rw [List.getElem?_take] at hc hv
  split at hc
  · rename_i hl
    rw [if_pos hl] at hv
    exact h.2 _ c v hc hv
  · cases hc
theorem mat_of {w : World} {A : Option Addr} {n : Nat} {rows : List (List Int)} {vs : List Value} (h : RdAll w (rows.map cints) vs) (hr : Rd w 1 A n vs) : Mat w A n rows := by
  refine ⟨vs, by rw [h.1]; simp, fun i cd v hc hv => ?_, hr⟩
  rw [List.getElem?_map] at hc
  cases hrw : rows[i]? with
  | none => rw [hrw] at hc; cases hc
  | some r =>
    rw [hrw] at hc
    injection hc with hc
    subst hc
    obtain ⟨B, d, rfl, q1, q2, q3⟩ := cints_rd (h.2 i (cints r) v (by rw [List.getElem?_map, hrw]; rfl) hv)
    exact ⟨B, d, rfl, q1, q2, q3⟩
theorem mat_rot {w w5 : World} {A : Option Addr} {n T H c : Nat} {rows : List (List Int)} {vs : List Value} (h : RdAll w (rows.map cints) vs) (hg : w.grownBy w5 none)
    (ho : w5.ownsRow H 22 1 (.slice A n c) n (vs.drop T ++ vs.take T)) : Mat w5 A n (rows.drop T ++ rows.take T) := by
  refine mat_of (vs := vs.drop T ++ vs.take T) ?_ (Rd.ofOwn ho)
  rw [List.map_append, List.map_drop, List.map_take]
  have h' := h.grow hg
  exact (h'.drop T).append (h'.take T)
theorem mat_two (w : World) : Mat (((w.alloc (.cells #[.int .i64 1] 3)).alloc (.cells #[.int .i64 2] 3)).alloc (.cells #[.slice (some ⟨w.heap.size, 0, none⟩) 1 1, .slice (some ⟨w.heap.size + 1, 0, none⟩) 1 1] 22)) (some ⟨w.heap.size + 1 + 1, 0, none⟩) 2 [[1], [2]] := by
  have h1 := (CS.toRd _ (cints_lit1 w 1))
  have h2 := (CS.toRd _ (cints_lit1 (w.alloc (.cells #[.int .i64 1] 3)) 2))
  have h1' := CS.grow _ (CS.grow _ h1 (gbA (gbR _ none) (.cells #[.int .i64 2] 3))) (gbA (gbR _ none) (.cells #[.slice (some ⟨w.heap.size, 0, none⟩) 1 1, .slice (some ⟨w.heap.size + 1, 0, none⟩) 1 1] 22))
  have h2' := CS.grow _ h2 (gbA (gbR _ none) (.cells #[.slice (some ⟨w.heap.size, 0, none⟩) 1 1, .slice (some ⟨w.heap.size + 1, 0, none⟩) 1 1] 22))
  simp at h2'
  refine mat_of (vs := [.slice (some ⟨w.heap.size, 0, none⟩) 1 1, .slice (some ⟨w.heap.size + 1, 0, none⟩) 1 1]) (RdAll.cons h1' (RdAll.cons h2' (RdAll.nil _))) ?_
  have := Rd.ofOwn (own_lit2 (w := (w.alloc (.cells #[.int .i64 1] 3)).alloc (.cells #[.int .i64 2] 3)) (Nat.le_refl _) (.slice (some ⟨w.heap.size, 0, none⟩) 1 1) (.slice (some ⟨w.heap.size + 1, 0, none⟩) 1 1) 22)
  simpa using this
set_option maxRecDepth 20000 in
set_option maxHeartbeats 2000000 in
theorem FnMajority.walk (w : World) (A : Option Addr) (n c : Nat) (zs : List Int) (hz : IntsK .u8 w A n zs) (hm : n ≤ maxLen) :
    Calls Try.prog 14 #[.slice A n c] w fun e w' => e = .returned (.bool true) ∧ w.grownBy w' none := by
  unfold maxLen at hm
  by_cases hbig : 1048576 < n
  · have hd : decide (1048576 < n) = true := by simp; omega
    go_enter Try.func14, Try.ntmps14
    go_wp2_with fail
    refine (big_c _ A n c (by omega)).mono ?_
    rintro e w1 ⟨rfl, rfl⟩
    go_wp2_with fail
    go_ret
    exact ⟨rfl, gbR _ _⟩
  · have hd : decide (1048576 < n) = false := by simp; omega
    have H := Lib.hid (bytesIn hz (by omega))
    clear hz
    go_enter Try.func14, Try.ntmps14
    go_wp2_with fail
    refine (big_c _ A n c (by omega)).mono ?_
    rintro e w1 ⟨rfl, rfl⟩
    rw [hd]
    clear hd hbig hm
    go_wp2_with fail
    refine (DrawPlaces_c _ A n c zs H.out).mono ?_
    rintro e w2 ⟨v, qs, rfl, hown, hq, hg⟩
    obtain ⟨B, d, rfl, _, _⟩ := own_form hown
    have HI := Lib.hid (show Ints w2 B 12 qs from Rd.ofOwn hown)
    obtain ⟨b, o, rfl, hb, hc⟩ := HI.out.at_ (by omega)
    have q0 := hq.at_ 0 (by omega)
    have c0 := hc 0 (by omega)
    rw [Nat.add_zero] at c0
    have HQ := Lib.hid hq
    have GG := Lib.hid hg
    obtain ⟨q00, q01⟩ := q0
    obtain ⟨N, hN⟩ : ∃ N : Nat, 1 + qs.getD 0 0 % 8 = (N : Int) := ⟨(1 + qs.getD 0 0 % 8).toNat, by omega⟩
    have hN8 : 1 ≤ N ∧ N ≤ 8 := by omega
    obtain ⟨hN1, hN8⟩ := hN8
    have HN := Lib.hid hN
    have G2 := Lib.hid (gbA hg (.cells #[] 22))
    have HI2 := Lib.hid (HI.out.grow (gbA (gbR _ none) (.cells #[] 22)))
    have HO := Lib.hid (World.ownsRow_made (e := 22) (size := 1) (base := w2.heap.size) w2 #[] 0 (Nat.le_refl _) (by simp) rfl)
    have HM : Hid (MO w2.heap.size (w2.alloc (.cells #[] 22)) (.slice (some ⟨w2.heap.size, 0, none⟩) 0 0) []) := MO.nil HO.out
    generalize qs.getD 0 0 = y0 at *
    clear hown hc hg hq HO
    go_wp2_with fail
    obtain ⟨Gd, hGd⟩ : ∃ G : Nat, G = N / 2 + 1 := ⟨_, rfl⟩
    rw [show ((N : Int) / 2 + 1) = (Gd : Int) by omega]
    have hGN : Gd ≤ 5 := by omega
    have HGD := Lib.hid hGd
    clear hGd c0
    go_loopw [6, 7] (fun s i wr => ∃ k : Nat, k ≤ N ∧ i = .int .i64 k ∧ Hid (MO w2.heap.size wr s (majRows (qs.getD 1 0 % 2) qs Gd k)) ∧ Hid (w2.grownBy wr none)) (fun _ i => fun _ => N - (intOf i).toNat)
    case atStart => exact ⟨0, Nat.zero_le _, rfl, HM.out, gbA (gbR _ _) _⟩
    case round =>
      obtain ⟨k, hk, rfl, hM, hg2⟩ := hrel
      obtain ⟨A4, c4, rfl⟩ := hM.out.form
      rw [majRows_len]
      obtain ⟨_, _, e', _, hc⟩ := (HI.out.grow hg2.out).at_ (by omega)
      injection e' with e'
      injection e' with e1 e2
      subst e1; subst e2
      by_cases hlt : k < N
      · have i1 : (k : Int) < (N : Int) := by omega
        have HS := Lib.hid (majRows_succ (qs.getD 1 0 % 2) qs Gd k)
        by_cases hgd : k < Gd
        · have i2 : (k : Int) < (Gd : Int) := by omega
          have c1 := hc 1 (by omega)
          obtain ⟨q10, q11⟩ := HQ.out.at_ 1 (by omega)
          rw [if_pos hgd] at HS
          generalize qs.getD 1 0 = y at *
          clear hc
          obtain ⟨vs, OW, PU⟩ := MO.push hM.out (by have := hg2.out.size; exact this) (gbA (gbR wr none) _) (cints_lit2 wr 7 (y % 2)) (fun g hg => by simp at hg; omega)
          rw [majRows_len] at OW PU
          have OW := Lib.hid OW
          have PU := Lib.hid PU
          have GW := Lib.hid hg2.out
          have GS := hg2.out.size
          clear hM hg2
          go_wp2_with (at_builtin; (refine wp_appendG (wr.alloc (.cells #[.int .i64 7, .int .i64 (y % 2)] 3)) (wr.heap.size + 1) (by simp) el_ints rfl (.tmp 35) (.tmp 41) rfl #[.slice (some ⟨wr.heap.size, 0, none⟩) 2 2] rfl (by simp [Value.oneCell']) w2.heap.size _ k vs OW.out rfl rfl (by unfold maxLen; omega) (by omega) (by simp; omega) ?_); intro v' w6 o7 g7 k7; (have P6 := Lib.hid (PU.out w6 v' o7 (gbT (gbA (gbR _ _) _) g7) (fun g hg => by rcases k7 g hg with h | h; exact .inl h; exact .inr (Nat.le_of_lt h))); have G6 := Lib.hid (gbN (gbA (gbA GW.out _) _) g7 (fun g hg => (OW.out.lt g hg).1)); clear o7 g7 k7 PU OW))
          rw [← HS.out] at P6
          obtain ⟨A6, c6, hv6⟩ := P6.out.form
          rw [majRows_len] at hv6
          subst hv6
          go_wp2_with fail
          go_roundw
          case rel => exact ⟨k + 1, by omega, by go_num, P6.out, G6.out⟩
          case measure => simp [intOf]; omega
        · have i2 : ¬ (k : Int) < (Gd : Int) := by omega
          have c1 := hc (k % 12) (by omega)
          obtain ⟨q10, q11⟩ := HQ.out.at_ (k % 12) (by omega)
          rw [if_neg hgd] at HS
          have e12 : k % 12 = k := by omega
          rw [e12] at c1 q10 q11 HS
          generalize qs.getD k 0 = y at *
          have e13 : (k : Int) % 12 = (k : Int) := by omega
          clear hc e12
          obtain ⟨vs, OW, PU⟩ := MO.push hM.out (by have := hg2.out.size; exact this) (gbA (gbR wr none) _) (cints_lit2 wr 8 (y % 2)) (fun g hg => by simp at hg; omega)
          rw [majRows_len] at OW PU
          have OW := Lib.hid OW
          have PU := Lib.hid PU
          have GW := Lib.hid hg2.out
          have GS := hg2.out.size
          clear hM hg2
          go_wp2_with (at_builtin; (refine wp_appendG (wr.alloc (.cells #[.int .i64 8, .int .i64 (y % 2)] 3)) (wr.heap.size + 1) (by simp) el_ints rfl (.tmp 43) (.tmp 51) rfl #[.slice (some ⟨wr.heap.size, 0, none⟩) 2 2] rfl (by simp [Value.oneCell']) w2.heap.size _ k vs OW.out rfl rfl (by unfold maxLen; omega) (by omega) (by simp; omega) ?_); intro v' w6 o7 g7 k7; (have P6 := Lib.hid (PU.out w6 v' o7 (gbT (gbA (gbR _ _) _) g7) (fun g hg => by rcases k7 g hg with h | h; exact .inl h; exact .inr (Nat.le_of_lt h))); have G6 := Lib.hid (gbN (gbA (gbA GW.out _) _) g7 (fun g hg => (OW.out.lt g hg).1)); clear o7 g7 k7 PU OW))
          rw [← HS.out] at P6
          obtain ⟨A6, c6, hv6⟩ := P6.out.form
          rw [majRows_len] at hv6
          subst hv6
          go_wp2_with fail
          go_roundw
          case rel => exact ⟨k + 1, by omega, by go_num, P6.out, G6.out⟩
          case measure => simp [intOf]; omega
      · have hkN : k = N := by omega
        subst hkN
        clear hlt hk
        have c2 := hc 2 (by omega)
        have c1 := hc 1 (by omega)
        obtain ⟨q10, q11⟩ := HQ.out.at_ 1 (by omega)
        obtain ⟨q20, q21⟩ := HQ.out.at_ 2 (by omega)
        obtain ⟨T, hT⟩ : ∃ T : Nat, qs.getD 2 0 % (k : Int) = (T : Int) := ⟨(qs.getD 2 0 % (k : Int)).toNat, by have := Int.emod_nonneg (qs.getD 2 0) (show (k : Int) ≠ 0 by omega); omega⟩
        have hTk : T < k := by have := Int.emod_lt_of_pos (qs.getD 2 0) (show (0 : Int) < k by omega); omega
        generalize qs.getD 2 0 = y2 at *
        clear hc
        have qt : Int.tmod y2 (k : Int) = (T : Int) := by rw [Int.tmod_eq_emod_of_nonneg q20]; exact hT
        obtain ⟨vs, hov, hrv⟩ := hM.out.open_
        rw [majRows_len] at hov
        obtain ⟨gl, cl, e1, hkc, hgl, hcm⟩ := own_form2 hov (by omega)
        injection e1 with e1 _ e3
        subst e1; subst e3
        have HOV := Lib.hid hov
        have HRV := Lib.hid hrv
        have W2 := Lib.hid (hg2.out)
        have kT : T ≤ k := by omega
        have lv : vs.length = k := by have := hov.1; omega
        have hvc : ∀ j u, vs[j]? = some u → wr.cell? ⟨gl, j, none⟩ = some u := fun j u hu => by
          have := hov.cells (g := gl) rfl j u hu
          rwa [show (⟨gl, 0, none⟩ : Addr).add j = ⟨gl, j, none⟩ by unfold Addr.add; split <;> simp_all] at this
        have HVC := Lib.hid hvc
        have LV := Lib.hid lv
        have C1 := Lib.hid c1
        have QT := Lib.hid qt
        clear hov hrv hM hg2 hvc lv c1 hT
        go_wp2_with fail
        have hvk : ∀ u ∈ vs, u.oneCell' = true := fun u hu => by
          obtain ⟨j, hj⟩ := List.mem_iff_getElem?.1 hu
          have hjl := (List.getElem?_eq_some_iff.1 hj).1
          have h2 := HRV.out.2 j _ u (List.getElem?_eq_getElem (by have := HRV.out.1; omega)) hj
          exact CS.one _ h2
        have V1 := Lib.hid hvk
        clear hvk
        refine region_reg4 [onT 58 (rowF wr.drew.heap.size 22 0 (· = 0) []), onT 59 (isV (.slice (some ⟨gl, 0, none⟩) k c4)), onT 60 (isV (.int .i64 T)), onT 61 (isV (.slice (some ⟨gl, T, none⟩) (k - T) (c4 - T))), onT 62 (rowF wr.drew.heap.size 22 (k - T) (fun c => k - T ≤ c ∧ c ≤ maxLen) (vs.drop T)), onT 63 (isV (.slice (some ⟨gl, 0, none⟩) k c4)), onT 64 (isV (.int .i64 T)), onT 65 (isV (.slice (some ⟨gl, 0, none⟩) T c4)), onT 66 (rowF wr.drew.heap.size 22 k (fun c => k ≤ c ∧ c ≤ maxLen) (vs.drop T ++ vs.take T)), ⟨[9, 66], fun l _ => l.getD 0 undef = l.getD 1 undef⟩] [] (by kernel_rfl) (by kernel_rfl) (by kernel_rfl) ?_ ?_ ?_
        · simp [stablesF, stableF_on, isV_st, rowF_st]
          exact fun l w w' h _ => h
        · simp only [hops4, and_true]
          refine ⟨?_, ?_, ?_, ?_, ?_, ?_, ?_, ?_, ?_, ?_⟩
          rotate_left 4
          · intro f w4 hG _ hd
            simp [depsF, bindE, List.filter_cons, bd_data, bd_chain, bd_guard, bd_phase, bd_text, bd_gc, fAt, onT_at, isV] at hd
            obtain ⟨⟨g0, cc, e0, hcc, o0⟩, h21⟩ := hd
            subst hcc
            rw [e0] at o0
            have hg4 := chgNil hG
            have hs4 := hg4.size
            have hl0 := o0.lt g0 rfl
            have hvc4 : ∀ j u, (vs.drop T)[j]? = some u → w4.cell? ((⟨gl, T, none⟩ : Addr).add j) = some u := fun j u hu => by
              rw [List.getElem?_drop] at hu
              have h1 := HVC.out (T + j) u hu
              rw [show (⟨gl, T, none⟩ : Addr).add j = ⟨gl, T + j, none⟩ by unfold Addr.add; split <;> simp_all]
              exact gbk hg4 (kD h1)
            simp [puts, dsts, Act.put, e0, h21]
            refine wp_appendK w4 el_ints rfl (.tmp 58) (.tmp 61) rfl _ _ 0 [] o0 rfl ⟨gl, T, none⟩ (k - T) (c4 - T) (vs.drop T) rfl (by have := LV.out; simp; omega) hvc4 (fun u hu => V1.out u (List.mem_of_mem_drop hu)) (by unfold maxLen; omega) (by omega) hs4 ?_
            intro v' w5 o5 g5 k5
            obtain ⟨gn, cn, rfl, hcn, hbn, hmn⟩ := own_form2 o5 (by omega)
            refine ⟨_, rfl, ⟨gn, cn, by simp [upd_some, fAt, onT], ⟨by omega, hmn⟩, by simpa [upd_some, fAt, onT] using o5⟩, Or.inr ⟨Chg.of g5 fun x hx => by have := (o0.lt x hx).1; first | exact this | exact .inl this, ?_⟩⟩
            simp [keeps, onT_at, isV]
            exact ⟨fun _ => ⟨g0, 0, e0, rfl, by rw [e0]; exact k5⟩, fun hk => rowF_keep hk o0 (by omega) g5, fun h => h⟩
          rotate_left 3
          · intro f w4 hG _ hd
            simp [depsF, bindE, List.filter_cons, bd_data, bd_chain, bd_guard, bd_phase, bd_text, bd_gc, fAt, onT_at, isV] at hd
            obtain ⟨⟨g0, cc, e0, hcc, o0⟩, h21, _⟩ := hd
            rw [e0] at o0
            have hg4 := chgNil hG
            have hs4 := hg4.size
            have hl0 := o0.lt g0 rfl
            have hvc4 : ∀ j u, (vs.take T)[j]? = some u → w4.cell? ((⟨gl, 0, none⟩ : Addr).add j) = some u := fun j u hu => by
              rw [List.getElem?_take] at hu
              split at hu
              · have h1 := HVC.out j u hu
                rw [show (⟨gl, 0, none⟩ : Addr).add j = ⟨gl, j, none⟩ by unfold Addr.add; split <;> simp_all]
                exact gbk hg4 (kD h1)
              · cases hu
            simp [puts, dsts, Act.put, e0, h21]
            refine wp_appendK w4 el_ints rfl (.tmp 62) (.tmp 65) rfl _ _ (k - T) _ o0 rfl ⟨gl, 0, none⟩ T c4 (vs.take T) rfl (by have := LV.out; simp; omega) hvc4 (fun u hu => V1.out u (List.mem_of_mem_take hu)) (by unfold maxLen; omega) (by omega) hs4 ?_
            intro v' w5 o5 g5 k5
            obtain ⟨gn, cn, rfl, hcn, hbn, hmn⟩ := own_form2 o5 (by omega)
            rw [show k - T + T = k by omega] at o5 hcn
            refine ⟨_, rfl, ⟨gn, cn, by simp [upd_some, fAt, onT]; omega, ⟨hcn, hmn⟩, by simpa [upd_some, fAt, onT, show k - T + T = k by omega] using o5⟩, Or.inr ⟨Chg.of g5 fun x hx => by have := (o0.lt x hx).1; first | exact this | exact .inl this, ?_⟩⟩
            simp [keeps, onT_at, isV]
            exact ⟨fun hk => rowF_keep hk o0 (by omega) g5, fun _ => ⟨g0, cc, e0, by omega, by rw [e0]; exact k5⟩, fun h => h⟩
          all_goals
            intro f w4 hG _ hd
            have hg4 := chgNil hG
            have hs4 := hg4.size
            clear hG
            simp [depsF, bindE, List.filter_cons, bd_data, bd_chain, bd_guard, bd_phase, bd_text, bd_gc, fAt, onT_at, isV] at hd
            try obtain ⟨gq, cq, hd, _, oq⟩ := hd
            first | simp [puts, dsts, Act.put, hd] | simp [puts, dsts, Act.put]
            go_wp2_with fail
            first
              | exact ⟨_, rfl, (rfl : f 66 = f 66), Or.inl (gbR _ _)⟩
              | exact ⟨_, rfl, by simp [fAt, onT_at, upd_some, isV], Or.inl (gbR _ _)⟩
              | exact ⟨_, rfl, ⟨_, 0, rfl, rfl, World.ownsRow_made w4 #[] 0 hs4 (by simp) rfl⟩, Or.inl (gbA (gbR _ _) _)⟩
        · intro f w5 hG hd
          have G5 := Lib.hid (gbT (gbD (gbR wr none)) (chgNil hG))
          simp [knowsF, onT_at, isV] at hd
          obtain ⟨⟨g0_, c0_, q0, e0_, _⟩, q1, q2, q3, ⟨g4_, c4_, q4, _, _⟩, q5, q6, q7, ⟨gR, cR, q8, hcR, oR⟩, q9⟩ := hd
          have q9 : f 9 = f 66 := q9
          rw [q8] at q9 oR
          subst e0_
          have M5 := Lib.hid (mat_rot HRV.out G5.out oR)
          simp only [puts, dsts, Act.put, q0, q1, q2, q3, q4, q5, q6, q7, q8, q9, List.filterMap_cons, List.filterMap_nil, List.setIfInBounds_toArray, List.set_cons_zero, List.set_cons_succ]
          clear q0 q1 q2 q3 q4 q5 q6 q7 q8 q9 oR hG
          go_wp2_with fail
          have e8 : ((majRows (qs.getD 1 0 % 2) qs Gd k).drop T ++ (majRows (qs.getD 1 0 % 2) qs Gd k).take T).length = k := by rw [List.length_append, List.length_drop, List.length_take, majRows_len]; omega
          have hrow : ∀ j, (((majRows (qs.getD 1 0 % 2) qs Gd k).drop T ++ (majRows (qs.getD 1 0 % 2) qs Gd k).take T).getD j []).length ≤ 1099511627776 := fun j => by
            rw [List.getD_eq_getElem?_getD]
            cases hj : ((majRows (qs.getD 1 0 % 2) qs Gd k).drop T ++ (majRows (qs.getD 1 0 % 2) qs Gd k).take T)[j]? with
            | none => simp
            | some r =>
              have hm := List.mem_of_getElem? hj
              have hm2 : r ∈ majRows (qs.getD 1 0 % 2) qs Gd k := by
                rcases List.mem_append.1 hm with h | h
                · exact List.mem_of_mem_drop h
                · exact List.mem_of_mem_take h
              unfold majRows at hm2
              obtain ⟨i, _, rfl⟩ := List.mem_map.1 hm2
              simp; split <;> simp
          refine (implMajorityOf_c _ k cR _ _ M5.out (by omega) hrow).mono ?_
          rintro e w6 ⟨v6, rfl, o6, g6⟩
          have HMJ := Lib.hid (maj_rot (b := qs.getD 1 0 % 2) (qs := qs) (k := T) hN1 hN8)
          rw [← HGD.out] at HMJ
          rw [HMJ.out] at o6 ⊢
          obtain ⟨A6, c6, rfl, _, _⟩ := own_form o6
          have R6 := Lib.hid (show Ints w6 A6 2 [7, qs.getD 1 0 % 2] from Rd.ofOwn o6)
          have G56 := Lib.hid g6
          have W6 := Lib.hid (gbT (gbT (gbT GG.out W2.out) G5.out) g6)
          clear o6 g6 hrow e8
          go_wp2_with fail
          refine (implMajorityOf_c _ 2 2 [[1], [2]] _ (mat_two w6) (by omega) (fun j => by match j with | 0 => simp | 1 => simp | j + 2 => simp)).mono ?_
          rintro e w7 ⟨v7, rfl, o7, g7⟩
          rw [maj_two] at o7 ⊢
          obtain ⟨A7, c7, rfl, _, _⟩ := own_form o7
          have g67 := gbT (gbA (gbA (gbA (gbR w6 none) (.cells #[.int .i64 1] 3)) (.cells #[.int .i64 2] 3)) _) g7
          obtain ⟨b6, o6, rfl, _, hc6⟩ := (R6.out.grow g67).at_ (by omega)
          have k0 := hc6 0 (by omega)
          have k1 := hc6 1 (by omega)
          rw [Nat.add_zero] at k0
          simp only [List.getD_cons_zero, List.getD_cons_succ] at k0 k1
          have W7 := Lib.hid (gbT W6.out g67)
          have kk := gbk (gbT G5.out (gbT G56.out g67)) C1.out
          clear o7 g7 g67 hc6
          have KK := Lib.hid kk
          clear kk
          have kk := KK.out
          clear KK M5 HMJ R6 C1 HRV
          generalize qs.getD 1 0 = y1 at *
          go_wp2_with fail
          go_quiet (fail)
          go_wp2_with fail
          go_ret
          exact ⟨rfl, gbDN W7.out nq⟩
end Go.Proofs.Ythncoohkdmjcaaa
