/-
  FnCaught's walk.
-/
import Derived.Test.YthdfkiaoahpjpaaMgFnCaught40
import Derived.Test.YthdfkiaoahpjpaaMgFnCaught44
namespace Go.Proofs.Ythdfkiaoahpjpaa
open Go.RowKit
set_option linter.unusedVariables false
set_option linter.unusedSimpArgs false
theorem second {xs : List PbM} {N K : Nat} {vs : List Value} {w7 w8 : World} (hl : xs.length = N) (hR : RdAll w7 (xs.flatMap cpb) vs) (h78 : w7.grownBy w8 none) (hK : K < N) :
    ∀ (v : Value) (w : World), w.ownsRow 0 70 3 v N vs → w8.grownBy w none → (∀ g, v.ownBlock = some g → g = w7.heap.size ∨ (w8.heap.size ≤ g ∧ 0 < N)) →
      ∃ (gb c : Nat) (B : Option Addr) (l d : Nat), v = .slice (some ⟨gb, 0, none⟩) N c ∧ w7.heap.size ≤ gb ∧ w.cell? ⟨gb, K * 3 + 2, none⟩ = some (.slice B l d) ∧ Ints w B l (pbAt xs K).ds ∧ (pbAt xs K).ds.length = l := by
  intro v w o8 g8 n8
  obtain ⟨gb, c, rfl⟩ : ∃ g c, v = .slice (some ⟨g, 0, none⟩) N c := by
    rcases o8.2 with ⟨_, h⟩ | ⟨g, cap, cur, hv, _⟩
    · have h : N = 0 := h; omega
    · exact ⟨g, cap, hv⟩
  obtain ⟨A', c', e, hc, hm, hr⟩ := own_rd2 o8
  injection e with e1 e2 e3
  subst e1; subst e3
  have hrd : (cpubs xs).rd w (.slice (some ⟨gb, 0, none⟩) N c) := lst_mk (s := 3) (fun _ => rfl) hl hc hm (hR.grow (gbT h78 g8)) hr
  obtain ⟨b', o', X, hX, hb', hx, hcel⟩ := lst_at (s := 3) (fun _ => rfl) (by omega) hrd hK
  injection hX with hX
  injection hX with hX1 hX2 _
  subst hX1; subst hX2
  have hxe : pbAt xs K = X := by unfold pbAt; rw [List.getD_eq_getElem?_getD, hx]; rfl
  obtain ⟨u, q, r⟩ := hcel 2 (cints X.ds) rfl
  obtain ⟨B, d, rfl, _, _, hi⟩ := cints_rd r
  rw [Nat.zero_add] at q
  rw [hxe]
  refine ⟨gb, c, B, X.ds.length, d, rfl, ?_, q, hi, rfl⟩
  have hz := h78.size
  rcases n8 gb rfl with h | h <;> omega
def Third (w8 w9 : World) (gb gd cd dl c8 N K a0 : Nat) (vs : List Value) (ds : List Int) : Prop :=
  (∀ W : World, W.grownBy w8 none → W.heap.size ≤ gb → W.grownBy ((w9.setCell ⟨gd, 0, none⟩ (.int .i64 (1 - (a0 : Int)))).setCell ⟨gb, K * 3 + 2, none⟩ (.slice (some ⟨gd, 0, none⟩) dl cd)) none) ∧
  ((w9.setCell ⟨gd, 0, none⟩ (.int .i64 (1 - (a0 : Int)))).setCell ⟨gb, K * 3 + 2, none⟩ (.slice (some ⟨gd, 0, none⟩) dl cd)).ownsRow 0 70 3 (.slice (some ⟨gb, 0, none⟩) N c8) N (vs.set (K * 3 + 2) (.slice (some ⟨gd, 0, none⟩) dl cd)) ∧
  (cints ((1 - (a0 : Int)) :: ds)).rd ((w9.setCell ⟨gd, 0, none⟩ (.int .i64 (1 - (a0 : Int)))).setCell ⟨gb, K * 3 + 2, none⟩ (.slice (some ⟨gd, 0, none⟩) dl cd)) (.slice (some ⟨gd, 0, none⟩) dl cd)
theorem third {w8 w9 : World} {gb N c8 K dl d2 a0 : Nat} {B2 : Option Addr} {vs : List Value} {ls ds : List Int} {v : Value} (O8 : w8.ownsRow 0 70 3 (.slice (some ⟨gb, 0, none⟩) N c8) N vs) (hb : w8.cell? ⟨gb, K * 3 + 2, none⟩ = some (.slice B2 dl d2)) (hz : ls = (a0 : Int) :: ds) (hl : ls.length = dl) (h1 : 1 ≤ dl)
    (o9 : w9.ownsRow 0 3 1 v dl (ls.map (Value.int .i64))) (g9 : (w8.alloc (.cells #[] 3)).grownBy w9 none) (n9 : ∀ g, v.ownBlock = some g → g = w8.heap.size ∨ ((w8.alloc (.cells #[] 3)).heap.size ≤ g ∧ 0 < dl)) :
    ∃ gd cd, v = .slice (some ⟨gd, 0, none⟩) dl cd ∧ gb < gd ∧ w9.cell? ⟨gd, 0, none⟩ = some (.int .i64 (a0 : Int)) ∧ w9.frozen? ⟨gd, 0, none⟩ = false ∧
      (w9.setCell ⟨gd, 0, none⟩ (.int .i64 (1 - (a0 : Int)))).cell? ⟨gb, K * 3 + 2, none⟩ = some (.slice B2 dl d2) ∧ (w9.setCell ⟨gd, 0, none⟩ (.int .i64 (1 - (a0 : Int)))).frozen? ⟨gb, K * 3 + 2, none⟩ = false ∧ Third w8 w9 gb gd cd dl c8 N K a0 vs ds := by
  subst hz
  obtain ⟨gd, cd, rfl⟩ : ∃ g c, v = .slice (some ⟨g, 0, none⟩) dl c := by
    rcases o9.2 with ⟨_, h⟩ | ⟨g, cap, cur, hv, _⟩
    · have h : dl = 0 := h; omega
    · exact ⟨g, cap, hv⟩
  have hgb : gb < w8.heap.size := (O8.lt gb (by simp [Value.ownBlock])).2
  have hgd : gb < gd := by
    rcases n9 gd (by simp [Value.ownBlock]) with h | h
    · omega
    · have := h.1; simp at this; omega
  have g89 : w8.grownBy w9 none := gbT (gbA (gbR w8 none) _) g9
  have O9 := own_grow O8 g89
  have k0 := o9.cellAt 0 (by omega)
  have CA := chgS w9 gd 0 (.int .i64 (1 - (a0 : Int)))
  have O10 := Chg.own O9 CA (fun y hy e => by simp [Value.ownBlock] at hy; omega)
  have hb9 := gbk g89 hb
  have hb10 := CA.cell hb9 (by have := g89.size; omega) (by omega)
  have CB := chgS (w9.setCell ⟨gd, 0, none⟩ (.int .i64 (1 - (a0 : Int)))) gb (K * 3 + 2) (.slice (some ⟨gd, 0, none⟩) dl cd)
  have P10 := (o9.stored 0 (.int .i64 (1 - (a0 : Int)))).1
  have P11 := Chg.own P10 CB (fun y hy e => by simp [Value.ownBlock] at hy; omega)
  have O11 := (O10.stored (K * 3 + 2) (.slice (some ⟨gd, 0, none⟩) dl cd)).1
  refine ⟨gd, cd, rfl, hgd, by simpa using k0, o9.frozenAt 0, hb10, O10.frozenAt _, fun W hW hw => ?_, O11, ?_⟩
  · exact gb_chg (gb_chg (gbT hW g89) CA (by omega)) CB hw
  · obtain ⟨A', c', e, hc, hm, hr⟩ := own_rd2 P11
    rw [e]
    injection e with e1 e2 e3
    subst e1; subst e3
    exact cints_mk hr hc hm
set_option maxHeartbeats 1600000 in
set_option maxRecDepth 100000 in
theorem FnCaught.walk (w : World) (A : Option Addr) (n c : Nat) (zs : List Int) (hz : IntsK .u8 w A n zs) (hm : n ≤ maxLen) :
    Calls Try.prog 8 #[.slice A n c] w fun e w' => e = .returned (.bool true) ∧ w.grownBy w' none := by
  unfold maxLen at hm
  by_cases hbig : 1048576 < n
  · have hd : decide (1048576 < n) = true := by simp; omega
    go_enter Try.func8, Try.ntmps8
    go_wp2_with fail
    refine (big_c _ A n c (by omega)).mono ?_
    rintro e w1 ⟨rfl, rfl⟩
    go_wp2_with fail
    go_ret
    exact ⟨rfl, gbR _ _⟩
  · have hd : decide (1048576 < n) = false := by simp; omega
    have H := Lib.hid (bytesIn hz (by omega))
    clear hz
    go_enter Try.func8, Try.ntmps8
    go_wp2_with fail
    refine (big_c _ A n c (by omega)).mono ?_
    rintro e w1 ⟨rfl, rfl⟩
    rw [hd]
    clear hd
    go_wp2_with fail
    refine (DrawGarbling_c _ A n c zs H.out).mono ?_
    rintro e w2 ⟨_, A0, A1, A2, n0, s0, n1, s1, c2, s, a, m, rfl, hok, ho4, hcr, g2⟩
    obtain ⟨w3, hw3⟩ : ∃ x : World, (w2.alloc (.cells #[.slice A0 n0 s0, .slice A1 n1 s1] 28)).alloc (.cells #[.int .i64 s, .int .i64 a] 65) = x := ⟨_, rfl⟩
    have g23 : w2.grownBy w3 none := by rw [← hw3]; exact gbA (gbA (gbR _ _) _) _
    have D3 : Hid (Blk w3 w2.heap.size 28 #[.slice A0 n0 s0, .slice A1 n1 s1]) := by rw [← hw3]; exact Lib.hid ((Blk.new w2 _ _).grow (gbA (gbR _ _) _))
    have T3 : Hid (Blk w3 (w2.heap.size + 1) 65 #[.int .i64 s, .int .i64 a]) := by rw [← hw3]; exact Lib.hid (Blk.new' _ _ _ _ (by simp))
    have G3 := Lib.hid (gbT g2 g23)
    have HV := Lib.hid (hcr.grow g23)
    have OK := Lib.hid hok
    have HW3 := Lib.hid hw3
    clear g2 g23 hcr hok hw3
    go_wp2_with fail
    rw [HW3.out]
    clear HW3
    refine (DrawPlaces_c _ A n c zs (H.out.grow G3.out)).mono ?_
    rintro e w4 ⟨v, qs, rfl, hown, hq, g4⟩
    obtain ⟨B, d, rfl, hd1, hd2, hI⟩ := own_rd2 hown
    have hI := (show Ints w4 B 12 qs from hI)
    unfold maxLen at hd2
    obtain ⟨b, o, rfl, hb, hc⟩ := hI.at_ (by omega)
    have c0 := hc 0 (by omega)
    rw [Nat.add_zero] at c0
    have c8 := hc 8 (by omega)
    have c9 := hc 9 (by omega)
    have q0 := hq.at_ 0 (by omega)
    have q8 := hq.at_ 8 (by omega)
    have q9 := hq.at_ 9 (by omega)
    obtain ⟨N, hN⟩ : ∃ N : Nat, 1 + qs.getD 0 0 % 5 = (N : Int) := ⟨(1 + qs.getD 0 0 % 5).toNat, by omega⟩
    have hN1 : 1 ≤ N := by omega
    have hN5 : N ≤ 5 := by omega
    obtain ⟨X, hX⟩ : ∃ X : Nat, qs.getD 8 0 = (X : Int) := ⟨(qs.getD 8 0).toNat, by omega⟩
    obtain ⟨Y, hY⟩ : ∃ Y : Nat, qs.getD 9 0 = (Y : Int) := ⟨(qs.getD 9 0).toNat, by omega⟩
    rw [hX] at c8 q8
    rw [hY] at c9 q9
    generalize qs.getD 0 0 = p0 at *
    have SD : Hid ((cints (seedL qs N)).rd w4 (.slice (some ⟨b, o + 1, none⟩) N (d - 1))) := Lib.hid (cints_mk (ints_sub hI 1 N (by omega) (by omega)) (by omega) (by unfold maxLen; omega))
    have ASK := Lib.hid (show askB m (seedL qs N) from ⟨OK.out, by unfold seedL; have := hq.1; simp; omega, fun z hz => by
      have h1 := hq.2 z (List.mem_of_mem_drop (List.mem_of_mem_take hz))
      exact inQ_yes (by omega) (by omega)⟩)
    have SL := Lib.hid (show (seedL qs N).length = N by unfold seedL; have := hq.1; simp; omega)
    have G4 := Lib.hid (gbT G3.out g4)
    have D4 := Lib.hid (D3.out.grow g4)
    have T4 := Lib.hid (T3.out.grow g4)
    have HV4 := Lib.hid (HV.out.grow g4)
    have C0 := Lib.hid c0
    have C8 := Lib.hid c8
    have C9 := Lib.hid c9
    have HNN := Lib.hid hN
    clear hown hq g4 hI hc c8 c9 D3 T3 HV G3 hX hY
    have b0 := D4.out.cell 0
    have b1 := D4.out.cell 1
    simp at b0 b1
    go_wp2_with fail
    rw [show 1 + N - 1 = N by omega]
    clear b0 b1 c0
    have hql : m.outs.length ≤ 1048576 := by omega
    refine (implCopiesNew_c m (seedL qs N) _ _ w4 HV4.out SD.out hql).mono ?_
    rintro e w5 ⟨VL, rfl, o5, g5⟩
    obtain ⟨FL, o5, _⟩ := o5
    have HXS : Hid (cpsR m (seedL qs N) = copN m (seedL qs N)) := Lib.hid (cpsR_yes ASK.out)
    rw [HXS.out] at o5
    have XL := Lib.hid (show (copN m (seedL qs N)).length = N by rw [copN_len, SL.out])
    have XD : Hid (∀ x ∈ copN m (seedL qs N), 1 ≤ x.ds.length ∧ x.ds.length ≤ 4 ∧ pbS x ∧ ∀ z ∈ x.ds, z = 0 ∨ z = 1) := Lib.hid (fun x hx => by
      obtain ⟨s', _, rfl⟩ := List.mem_map.1 hx
      have h1 : (pubN m s'.toNat).ds.length = m.outs.length := decTo_len m _ _ (Nat.le_refl _)
      exact ⟨by omega, by omega, pubN_small m _ OK.out.few hql, decTo_bit m _ _⟩)
    have HR0 := (cpubs _).toRd o5
    obtain ⟨xs, hxs⟩ : ∃ xs, copN m (seedL qs N) = xs := ⟨_, rfl⟩
    rw [hxs] at HXS XL XD HR0
    obtain ⟨L, cL, rfl, hL1, hL2⟩ := cps_rd HR0
    rw [XL.out] at HR0 hL1 ⊢
    unfold maxLen at hL2
    have G5 := Lib.hid (gbT G4.out g5)
    have D5 := Lib.hid (D4.out.grow g5)
    have T5 := Lib.hid (T4.out.grow g5)
    have HV5 := Lib.hid (HV4.out.grow g5)
    have SD5 := Lib.hid ((cints _).grow SD.out g5)
    have R5 := Lib.hid HR0
    have c8 := gbk g5 C8.out
    have C95 := Lib.hid (gbk g5 C9.out)
    clear o5 g5 hxs HR0 G4 D4 T4 HV4 SD C0 C9
    go_wp2_with fail
    refine (implChosenBy_yes X N w5 (by omega) (by omega)).mono ?_
    rintro e w6 ⟨vc, rfl, o6, g6⟩
    obtain ⟨CB, cb, rfl, hC1, hC2, hC3⟩ := own_rd2 o6
    unfold maxLen at hC2
    have CH : Hid ((cbools (chosen X N)).rd w6 (.slice CB N cb)) := Lib.hid (cbools_mk (show Bools w6 CB N (chosen X N) from hC3) (by omega) (by unfold maxLen; omega))
    have G6 := Lib.hid (gbT G5.out g6)
    have D6 := Lib.hid (D5.out.grow g6)
    have T6 := Lib.hid (T5.out.grow g6)
    have HV6 := Lib.hid (HV5.out.grow g6)
    have SD6 := Lib.hid ((cints _).grow SD5.out g6)
    have R6 := Lib.hid ((cpubs _).grow R5.out g6)
    have C86 := Lib.hid (gbk g6 c8)
    have C96 := Lib.hid (gbk g6 C95.out)
    clear o6 g6 hC3 G5 D5 T5 HV5 SD5 c8 C95
    have hnn : ((N : Int) != (N : Int)) = false := by simp
    have b0 := D6.out.cell 0
    have b1 := D6.out.cell 1
    simp at b0 b1
    go_wp2_with fail
    clear b0 b1
    have XS := Lib.hid (fun x hx => (XD.out x hx).2.2.1)
    have HCK : Hid (chkR m xs (seedL qs N) (chosen X N) = -1) := by
      rw [chkR_yes ⟨by rw [XL.out, SL.out], by rw [XL.out, chosen_len], by rw [HXS.out]⟩, HXS.out, firstB_none fun j _ => badAt_same _ _ _]
      exact Lib.hid rfl
    refine (implCheckCopies_c m xs (seedL qs N) (chosen X N) _ _ _ _ w6 HV6.out R6.out SD6.out CH.out hql XS.out).mono ?_
    rintro e w7 ⟨rfl, g7⟩
    rw [HCK.out]
    have G7 := Lib.hid (gbT G6.out g7)
    have D7 := Lib.hid (D6.out.grow g7)
    have T7 := Lib.hid (T6.out.grow g7)
    have HV7 := Lib.hid (HV6.out.grow g7)
    have SD7 := Lib.hid ((cints _).grow SD6.out g7)
    have R7 := Lib.hid ((cpubs _).grow R6.out g7)
    have CH7 := Lib.hid ((cbools _).grow CH.out g7)
    have C87 := Lib.hid (gbk g7 C86.out)
    have C97 := Lib.hid (gbk g7 C96.out)
    clear g7 G6 D6 T6 HV6 SD6 R6 CH C86 C96
    obtain ⟨bl, ol, Z0, Z1, Z2, z0, z1, z2, rfl, hbl, -, -, r2, -⟩ := cpubs_at R7.out (k := 0) (by omega)
    obtain ⟨l0, hl0⟩ : ∃ l, (pbAt xs 0).ds.length = l := ⟨_, rfl⟩
    have hl1 : 1 ≤ l0 := by rw [← hl0]; exact (XD.out _ (List.mem_of_getElem? (pbAt_at (by rw [XL.out]; omega)))).1
    have h00 : ((l0 : Int) == 0) = false := by simp; omega
    rw [hl0] at r2
    simp at r2
    obtain ⟨K, hK⟩ : ∃ K : Nat, (Y : Int) % (N : Int) = (K : Int) := ⟨((Y : Int) % (N : Int)).toNat, by have := Int.emod_nonneg (Y : Int) (show (N : Int) ≠ 0 by omega); omega⟩
    have hKN : K < N := by have := Int.emod_lt_of_pos (Y : Int) (show 0 < (N : Int) by omega); omega
    have c9 := C97.out
    obtain ⟨wl, hwl⟩ : ∃ x : World, w7.alloc (.cells #[] 70) = x := ⟨_, rfl⟩
    have GL : Hid (w7.grownBy wl none) := by rw [← hwl]; exact Lib.hid (gbA (gbR _ _) _)
    have OL : Hid (wl.ownsRow 0 70 3 (.slice (some ⟨w7.heap.size, 0, none⟩) 0 0) 0 []) := by rw [← hwl]; exact Lib.hid (World.ownsRow_made w7 #[] 0 (Nat.zero_le _) (by simp) rfl)
    obtain ⟨_, _, vs, e, _, _, hRA, hRd⟩ := lst_rd (s := 3) (fun _ => rfl) (by omega) R7.out
    injection e with e1 e2 e3
    rw [← e1, ← e2] at hRd
    have RA := Lib.hid hRA
    have RD := Lib.hid (hRd.grow GL.out)
    clear hRA hRd e1 e2 e3 hl0
    have SEC := Lib.hid (second (xs := xs) (N := N) (K := K) (vs := vs) (w7 := w7) (w8 := wl) XL.out RA.out GL.out hKN)
    have hKx : K < xs.length := by rw [XL.out]; exact hKN
    obtain ⟨XD1, XD2, XD3, XD4⟩ := XD.out _ (List.mem_of_getElem? (pbAt_at hKx))
    obtain ⟨z, ds, hzs⟩ : ∃ z ds, (pbAt xs K).ds = z :: ds := by
      cases h : (pbAt xs K).ds with
      | nil => rw [h] at XD1; simp at XD1
      | cons z ds => exact ⟨z, ds, rfl⟩
    have hz01 := XD4 z (by rw [hzs]; exact List.mem_cons_self ..)
    obtain ⟨a0, rfl⟩ : ∃ a : Nat, z = (a : Int) := ⟨z.toNat, by omega⟩
    have ha1 : a0 ≤ 1 := by omega
    have HZS := Lib.hid hzs
    have XDL := Lib.hid (show (pbAt xs K).ds.length ≤ 4 ∧ 1 ≤ (pbAt xs K).ds.length from ⟨XD2, XD1⟩)
    have HBC := Lib.hid (chosen_at X N K hKN)
    have HFD := Lib.hid (found (ch := chosen X N) hKx hKN hzs)
    obtain ⟨bb, hbb⟩ : ∃ q, (bitAt X K == 1) = q := ⟨_, rfl⟩
    have hbt : (bits .and .i64 ((X : Int) / 2 ^ K) 1 == 1) = bb := by rw [bit_and]; exact hbb
    rw [hbb] at HBC
    have HBT := Lib.hid hbt
    obtain ⟨_, _, e, _, _, hBo⟩ := cbools_rd CH7.out
    injection e with e1 e2 e3
    rw [← e1, ← e2] at hBo
    obtain ⟨bc, oc, rfl, _, hBc⟩ := hBo.at_ (by omega)
    have hBk := hBc K hKN
    rw [HBC.out] at hBk
    have HCC := Lib.hid hBk
    clear XD1 XD2 XD3 XD4 hzs hz01 hbb hbt e1 e2 e3 hBo hBc hBk
    have hbt := HBT.out
    cases bb
    all_goals
      focus
        go_wp2_with (first | (at_builtin; refine wp_appendF wl elPublic rfl (.tmp 73) (.tmp 74) rfl w7.heap.size OL.out rfl (some ⟨bl, ol, none⟩) N cL vs rfl RD.out RA.out.one (by unfold maxLen; omega) (by omega) ?_; intro v8 w8 o8 g8 n8; obtain ⟨gb, c8', B2, dl, d2, e8, hgb, hb8, hi8, hdl⟩ := SEC.out v8 w8 o8 g8 n8; rw [e8] at o8 n8 ⊢; clear e8; have hb9 := fun o => kA hb8 o; have O8 := Lib.hid o8; have G8 := Lib.hid g8; have HI8 := Lib.hid hi8; have HB8 := Lib.hid hb8; have HDL := Lib.hid hdl; have hdl4 : dl ≤ 4 ∧ 1 ≤ dl := (by rw [← hdl]; exact XDL.out); clear o8 g8 n8 hi8 hdl) | (at_builtin; refine wp_appendF (w8.alloc (.cells #[] 3)) el_int rfl (.tmp 76) (.tmp 81) rfl w8.heap.size (World.ownsRow_made w8 #[] 0 (Nat.zero_le _) (by simp) rfl) rfl B2 dl d2 _ rfl (HI8.out.grow (gbA (gbR w8 none) _)) (by simp [Value.oneCell']) (by unfold maxLen; omega) (by omega) ?_; intro v9 w9 o9 g9 n9; obtain ⟨gd, cd, e9, hgd, k0, f0, k1, f1, q9⟩ := third (K := K) O8.out HB8.out HZS.out HDL.out hdl4.2 o9 g9 n9; clear o9 g9 n9; subst e9; have GZ := Lib.hid (q9.1 w7 (gbT GL.out G8.out) hgb); have Q9 := Lib.hid q9; clear q9; have c8 := gbk GZ.out C87.out; have y0 := (D7.out.grow GZ.out).cell 0; have y1 := (D7.out.grow GZ.out).cell 1; have t1 := (T7.out.grow GZ.out).cell 1; have kc := gbk GZ.out HCC.out; simp at y0 y1 t1; have hd0 : ((dl : Int) == 0) = false := (by simp; omega)))
        clear k0 f0 k1 f1 y0 y1 c8 hb8 hb9
        obtain ⟨xb, hxb⟩ : ∃ l, xs.set K { pbAt xs K with ds := (1 - (a0 : Int)) :: ds } = l := ⟨_, rfl⟩
        have HRB : Hid ((cpubs xb).rd ((w9.setCell ⟨gd, 0, none⟩ (.int .i64 (1 - (a0 : Int)))).setCell ⟨gb, K * 3 + 2, none⟩ (.slice (some ⟨gd, 0, none⟩) dl cd)) (.slice (some ⟨gb, 0, none⟩) N c8')) := by
          rw [← hxb]
          exact Lib.hid (cpubs_dec RA.out GZ.out Q9.out.2.1 Q9.out.2.2 hKx XL.out)
        have HLB : Hid (xb.length = N) := by rw [← hxb, List.length_set]; exact XL
        have HFB := HFD.out
        rw [hxb, HBC.out] at HFB
        have HCB : Hid (chkR m xb (seedL qs N) (chosen X N) = firstB (badAt xb xs (chosen X N)) N) := by
          rw [chkR_yes ⟨by rw [HLB.out, SL.out], by rw [HLB.out, chosen_len], by rw [HXS.out, XL.out, HLB.out]⟩, HXS.out, chosen_len]
          exact Lib.hid rfl
        have HSB : Hid (∀ x ∈ xb, pbS x) := by
          rw [← hxb]
          refine Lib.hid fun x hx => ?_
          rcases List.mem_or_eq_of_mem_set hx with hx | rfl
          · exact (XD.out x hx).2.2.1
          · obtain ⟨-, -, ⟨h1, h2, h3⟩, -⟩ := XD.out _ (List.mem_of_getElem? (pbAt_at hKx))
            have h4 := HZS.out
            rw [h4] at h3
            exact ⟨h1, h2, by simpa using h3⟩
        clear hxb
        refine (implCheckCopies_c m xb (seedL qs N) (chosen X N) _ _ _ _ _ (HV7.out.grow GZ.out) HRB.out ((cints _).grow SD7.out GZ.out) ((cbools _).grow CH7.out GZ.out) hql HSB.out).mono ?_
        rintro e w10 ⟨rfl, g10⟩
        rw [HCB.out, HFB]
        have GA := Lib.hid (gbT (gbT G7.out GZ.out) g10)
        have kc' := gbk g10 kc
        have t1' := gbk g10 t1
        have e0 : ((-1 : Int) == (K : Int)) = false := by first | (simp; done) | (simp; omega)
        have e1 : (0 : Int) ≤ (a : Int) := by omega
        clear kc t1 g10 HFB
        simp only [if_true, if_false, Bool.false_eq_true, reduceIte]
        go_wp2_with fail
        go_ret
        exact ⟨rfl, GA.out⟩
end Go.Proofs.Ythdfkiaoahpjpaa
