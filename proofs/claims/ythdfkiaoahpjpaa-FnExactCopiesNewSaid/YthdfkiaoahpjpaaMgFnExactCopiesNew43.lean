/-
  CopiesNew of the reference: the answer for all arguments.
-/
import Derived.Test.YthdfkiaoahpjpaaMgFnExactCopiesNew42
namespace Go.Proofs.Ythdfkiaoahpjpaa
open Go.RowKit
set_option linter.unusedVariables false
set_option linter.unusedSimpArgs false
set_option maxHeartbeats 1600000 in
set_option maxRecDepth 100000 in
theorem specCopiesNew_c (m : CM) (ss : List Int) (v u : Value) (w0 : World) (h : AggR w0 (ccircuit m) v) (hu : (cints ss).rd w0 u) (hql : m.outs.length ≤ 1048576) :
    Calls Try.prog 27 #[v, u] w0 fun e w' => ∃ V, e = .returned V ∧ ownF w0.heap.size (cpubs (cpsR m ss)) V w' ∧ w0.grownBy w' none := by
  have HQL := Lib.hid hql
  have HU0 := Lib.hid hu
  obtain ⟨u0, u1, rfl, h1, h2⟩ := ccircuit_open h
  obtain ⟨A, cA, rfl, hc, hm, hF⟩ := plst_rd (s := 3) (fun _ => rfl) (by omega) h1
  obtain ⟨B, cB, rfl, _, _, hB⟩ := cints_rd h2
  obtain ⟨S, cS, rfl, hcS, hmS, hS⟩ := cints_rd hu
  unfold maxLen at hmS
  obtain ⟨q, hq⟩ : ∃ q, m.outs.length = q := ⟨_, rfl⟩
  obtain ⟨n, hn⟩ : ∃ n, m.gt.length = n := ⟨_, rfl⟩
  obtain ⟨r, hr⟩ : ∃ r, ss.length = r := ⟨_, rfl⟩
  have HV := Lib.hid (show AggR w0 (ccircuit m) (.agg #[.slice A n cA, .slice B q cB]) by rw [← hn, ← hq]; exact h)
  rw [hn, hq, hr]
  rw [hr] at hS hcS
  have HR := Lib.hid hr
  have IS := Lib.hid hS
  clear h h1 h2 hF hB hS hu hn hr hc hm
  obtain ⟨w1, hw1⟩ : ∃ x : World, w0.alloc (.cells #[.slice A n cA, .slice B q cB] 28) = x := ⟨_, rfl⟩
  have G1 : Hid (w0.grownBy w1 none) := by rw [← hw1]; exact Lib.hid (gbA (gbR _ _) _)
  have D1 : Hid (Blk w1 w0.heap.size 28 #[.slice A n cA, .slice B q cB]) := by rw [← hw1]; exact Lib.hid (Blk.new w0 _ _)
  have HU : Hid ((cints ss).rd w0 (.slice S r cS)) := by rw [← HR.out]; exact HU0
  clear hq hql HU0
  obtain ⟨wl, hwl⟩ : ∃ x : World, w1.alloc (.cells #[] 70) = x := ⟨_, rfl⟩
  have GL : Hid (w0.grownBy wl none) := by rw [← hwl]; exact Lib.hid (gbA G1.out _)
  have DL : Hid (Blk wl w0.heap.size 28 #[.slice A n cA, .slice B q cB]) := by rw [← hwl]; exact Lib.hid (D1.out.grow (gbA (gbR _ _) _))
  have OL : Hid (ownF (w0.heap.size + 1) (cpubs (copN m (ss.take 0))) (.slice (some ⟨w1.heap.size, 0, none⟩) 0 0) wl) := by
    rw [← hwl]
    exact Lib.hid ⟨_, cpubs_new (World.ownsRow_made w1 #[] 0 (Nat.zero_le _) (by simp) rfl), fun y hy => by have := D1.out.lt; simp at hy; omega⟩
  clear D1 G1
  go_enter Try.func27, Try.ntmps27
  go_wp2_with fail
  try rw [hwl]
  clear hwl hw1
  by_cases ask : askB m ss
  · have HASK := Lib.hid (askQ_yes ask)
    have ASK := Lib.hid ask
    clear ask
    go_loopw [5, 6] (fun t i wr => ∃ k c1 : Nat, ∃ A1 : Option Addr, k ≤ r ∧ i = .int .i64 k ∧ t = .slice A1 k c1 ∧ Hid (ownF (w0.heap.size + 1) (cpubs (copN m (ss.take k))) (.slice A1 k c1) wr) ∧ Hid (Blk wr w0.heap.size 28 #[.slice A n cA, .slice B q cB]) ∧ Hid (w0.grownBy wr none)) (fun _ i _ => r - (intOf i).toNat)
    case atStart => exact ⟨0, 0, _, Nat.zero_le _, rfl, rfl, OL, DL, GL⟩
    case round =>
      clear OL DL GL
      obtain ⟨k, c1, A1, hk, rfl, rfl, RO, DR, GR⟩ := hrel
      by_cases hlt : k < r
      · have i1 : (k : Int) < (r : Int) := by omega
        have c0 := DR.out.cell 0
        have c1' := DR.out.cell 1
        simp at c0 c1'
        go_wp2_with (go_at_call 72; refine (specl32Ask_c m ss _ _ wr (HV.out.grow GR.out) ((cints ss).grow HU.out GR.out)).mono ?_; rintro e w2 ⟨rfl, g2⟩; rw [HASK.out])
        have G2 := Lib.hid (gbT GR.out g2)
        have D2 := Lib.hid (DR.out.grow g2)
        obtain ⟨F0, ho, hF0⟩ := RO.out.grow g2
        have hlt0 := CS.lt _ ho
        have OW := Lib.hid ho
        have HF0 : Hid (∀ y ∈ F0, w0.heap.size + 1 ≤ y ∧ y < w2.heap.size) := Lib.hid (fun y hy => ⟨hF0 y hy, hlt0 y hy⟩)
        obtain ⟨bb, ob, rfl, hbb, qb⟩ := IS.out.cell hlt
        have kb := gbk G2.out qb
        have hw := ASK.out.2.2 (ss.getD k 0) (by rw [getI _ _ (by rw [HR.out]; exact hlt)]; exact List.getElem_mem _)
        obtain ⟨s, hs, hs6⟩ := word_nat hw
        have hsk : ss[k]? = some (s : Int) := by rw [← hs, getI _ _ (by rw [HR.out]; exact hlt)]; exact List.getElem?_eq_getElem _
        have HST := Lib.hid (copN_step (m := m) hsk)
        rw [hs] at kb
        have d0 := D2.out.cell 0
        have d1 := D2.out.cell 1
        simp at d0 d1
        have hzd := D2.out.lt
        have hz2 := G2.out.size
        have K0 : Hid (∀ wx, Chg (fun y => y ∈ F0) w2 wx → wx.cell? ⟨w0.heap.size, 0, none⟩ = some (.slice A n cA)) := Lib.hid (fun wx hx => hx.cell d0 (by omega) (fun e => by have := (HF0.out _ e).1; omega))
        have K1 : Hid (∀ wx, Chg (fun y => y ∈ F0) w2 wx → wx.cell? ⟨w0.heap.size, 1, none⟩ = some (.slice B q cB)) := Lib.hid (fun wx hx => hx.cell d1 (by omega) (fun e => by have := (HF0.out _ e).1; omega))
        have K2 : Hid (∀ wx, Chg (fun y => y ∈ F0) w2 wx → wx.cell? ⟨bb, ob + k, none⟩ = some (.int .i64 s)) := Lib.hid (fun wx hx => hx.cell kb (by omega) (fun e => by have := (HF0.out _ e).1; omega))
        have hk8 : k ≤ 8 := by have h1 := ASK.out.2.1; have h2 := HR.out; omega
        have HL : Hid ((copN m (ss.take k)).length = k) := Lib.hid (by rw [copN_len, List.length_take, HR.out]; omega)
        clear c0 c1' g2 RO GR DR ho hF0 hlt0 hw hs hsk kb qb d0 d1
        refine region_open [.rd (.slice A1 k c1), .rd (.agg #[.slice A n cA, .slice B q cB]), .rd (.slice (some ⟨bb, ob, none⟩) r cS), .rd (.int .i64 k), .rd (.pointer (some ⟨bb, ob + k, none⟩)), .rd (.int .i64 s), .ch none, .ch none, .ch none, .ch none] (fun y => y ∈ F0) [⟨[], fun _ w' => w' = w2.drew⟩,
           ⟨[25], fun l w' => ∃ (X0 : Option Addr) (n0 x0 : Nat) (X1 : Option Addr) (n1 x1 : Nat) (X2 : Option Addr) (n2 x2 : Nat), l.getD 0 undef = .agg #[.slice X0 n0 x0, .slice X1 n1 x1, .slice X2 n2 x2] ∧ aggF w2.heap.size (cpb (pubN m s)) (.agg #[.slice X0 n0 x0, .slice X1 n1 x1, .slice X2 n2 x2]) w' ∧ w2.grownBy w' none⟩,
           ⟨[26], fun l w' => ∃ w5, ∃ (X0 : Option Addr) (n0 x0 : Nat) (X1 : Option Addr) (n1 x1 : Nat) (X2 : Option Addr) (n2 x2 : Nat), w' = w5.alloc (.cells #[.slice X0 n0 x0, .slice X1 n1 x1, .slice X2 n2 x2] 70) ∧ l.getD 0 undef = .slice (some ⟨w5.heap.size, 0, none⟩) 1 1 ∧ aggF w2.heap.size (cpb (pubN m s)) (.agg #[.slice X0 n0 x0, .slice X1 n1 x1, .slice X2 n2 x2]) w5 ∧ w2.grownBy w5 none⟩,
           ⟨[27], fun l w' => ∃ A8 c8, l.getD 0 undef = .slice A8 (k + 1) c8 ∧ ownF (w0.heap.size + 1) (cpubs (copN m (ss.take (k + 1)))) (.slice A8 (k + 1) c8) w' ∧ Chg (fun y => y ∈ F0) w2 w'⟩,
           ⟨[5], fun l w' => ∃ A8 c8, l.getD 0 undef = .slice A8 (k + 1) c8 ∧ ownF (w0.heap.size + 1) (cpubs (copN m (ss.take (k + 1)))) (.slice A8 (k + 1) c8) w' ∧ Chg (fun y => y ∈ F0) w2 w'⟩] (by kernel_rfl) (by kernel_rfl) (by kernel_rfl) 4 (by kernel_rfl) rfl rfl ?_ ?_
        · simp only [hopsOK, hopO, Ko.next, and_true]
          refine ⟨?_, ?_, ?_, ?_, ?_, ?_, ?_, ?_, ?_, ?_⟩
          · intro f w4 hG hold hd
            have hS4 := (Chg.refl _ w2).trans (chgDr hG)
            clear hG
            have e5 := hold 5 (by kernel_rfl) (by simp [dsts])
            simp at e5
            clear hold
            (try simp [depsO, dstAt, oAt, Ko.val, bindE, List.filter_cons, bd_data, bd_chain, bd_guard, bd_phase, bd_text, bd_gc] at hd)
            (first | simp [puts, dsts, Act.put, hd, e5] | simp [puts, dsts, Act.put, e5])
            clear hd
            clear e5
            go_wp2_with fail
            exact ⟨rfl, rfl⟩
          · intro f w4 hG hold hd
            have hS4 := (Chg.refl _ w2).trans (chgDr hG)
            clear hG
            have k0 := (K0.out) _ hS4
            have k1 := (K1.out) _ hS4
            clear hold
            (try simp [depsO, dstAt, oAt, Ko.val, bindE, List.filter_cons, bd_data, bd_chain, bd_guard, bd_phase, bd_text, bd_gc] at hd)
            (first | simp [puts, dsts, Act.put, hd] | simp [puts, dsts, Act.put])
            clear hd
            go_wp2_with fail
            exact ⟨rfl, rfl⟩
          · intro f w4 hG hold hd
            have hS4 := (Chg.refl _ w2).trans (chgDr hG)
            clear hG
            clear hold
            (try simp [depsO, dstAt, oAt, Ko.val, bindE, List.filter_cons, bd_data, bd_chain, bd_guard, bd_phase, bd_text, bd_gc] at hd)
            (first | simp [puts, dsts, Act.put, hd] | simp [puts, dsts, Act.put])
            clear hd
            go_wp2_with fail
            exact ⟨rfl, rfl⟩
          · intro f w4 hG hold hd
            have hS4 := (Chg.refl _ w2).trans (chgDr hG)
            clear hG
            clear hold
            (try simp [depsO, dstAt, oAt, Ko.val, bindE, List.filter_cons, bd_data, bd_chain, bd_guard, bd_phase, bd_text, bd_gc] at hd)
            (first | simp [puts, dsts, Act.put, hd] | simp [puts, dsts, Act.put])
            clear hd
            go_wp2_with fail
            exact ⟨rfl, rfl⟩
          · intro f w4 hG hold hd
            have hS4 := (Chg.refl _ w2).trans (chgDr hG)
            clear hG
            clear hold
            (try simp [depsO, dstAt, oAt, Ko.val, bindE, List.filter_cons, bd_data, bd_chain, bd_guard, bd_phase, bd_text, bd_gc] at hd)
            (first | simp [puts, dsts, Act.put, hd] | simp [puts, dsts, Act.put])
            clear hd
            go_wp2_with fail
            exact ⟨rfl, rfl⟩
          · intro f w4 hG hold hd
            have hS4 := (Chg.refl _ w2).trans (chgDr hG)
            clear hG
            have k2 := (K2.out) _ hS4
            clear hold
            (try simp [depsO, dstAt, oAt, Ko.val, bindE, List.filter_cons, bd_data, bd_chain, bd_guard, bd_phase, bd_text, bd_gc] at hd)
            (first | simp [puts, dsts, Act.put, hd] | simp [puts, dsts, Act.put])
            clear hd
            go_wp2_with fail
            exact ⟨rfl, rfl⟩
          · intro f w4 hG hI hold hd
            have hS4 := (Chg.refl _ w2).trans (chgDr hG)
            clear hG
            clear hold
            have hI : w4 = w2.drew := hI
            subst hI
            (try simp [depsO, dstAt, oAt, Ko.val, bindE, List.filter_cons, bd_data, bd_chain, bd_guard, bd_phase, bd_text, bd_gc] at hd)
            (first | simp [puts, dsts, Act.put, hd] | simp [puts, dsts, Act.put])
            clear hd
            go_wp2_with fail
            have hgr : w2.grownBy w2.drew none := gbD (gbR _ none)
            refine (specl32One_c m s _ w2.drew (HV.out.grow (gbT G2.out hgr)) ASK.out.1 HQL.out hs6).mono ?_
            rintro e w6 ⟨V, rfl, o6, g6⟩
            obtain ⟨X0, x0, X1, x1, X2, x2, rfl, -, -, -⟩ := cpb_open o6.rd
            have O6 := Lib.hid (o6.lo hgr.size)
            have G6 := Lib.hid (gbT hgr g6)
            have G66 := Lib.hid g6
            clear o6 g6
            go_wp2_with fail
            exact ⟨_, rfl, by first | exact isVal.yes | exact isVal.no, ⟨_, _, _, _, _, _, _, _, _, rfl, O6.out, G6.out⟩, (Chg.of G66.out (by simp))⟩
          · intro f w4 hG hI hold hd
            have hS4 := (Chg.refl _ w2).trans (chgDr hG)
            clear hG
            clear hold
            obtain ⟨X0, n0, x0, X1, n1, x1, X2, n2, x2, e25, h2, h3⟩ := hI
            have e25 : f 25 = .agg #[.slice X0 n0 x0, .slice X1 n1 x1, .slice X2 n2 x2] := e25
            (try simp [depsO, dstAt, oAt, Ko.val, bindE, List.filter_cons, bd_data, bd_chain, bd_guard, bd_phase, bd_text, bd_gc] at hd)
            (first | simp [puts, dsts, Act.put, hd, e25] | simp [puts, dsts, Act.put, e25])
            clear hd
            go_wp2_with fail
            exact ⟨_, rfl, by first | exact isVal.yes | exact isVal.no, ⟨w4, _, _, _, _, _, _, _, _, _, rfl, rfl, h2, h3⟩, (Chg.of (gbA (gbR w4 none) _) (by simp))⟩
          · intro f w4 hG hI hold hd
            have hS4 := (Chg.refl _ w2).trans (chgDr hG)
            clear hG
            clear hold
            obtain ⟨w5, X0, n0, x0, X1, n1, x1, X2, n2, x2, rfl, e26, h2, h3⟩ := hI
            have e26 : f 26 = .slice (some ⟨w5.heap.size, 0, none⟩) 1 1 := e26
            have H2 := Lib.hid h2
            have H3 := Lib.hid h3
            have hz5 := h3.size
            clear h2 h3
            (try simp [depsO, dstAt, oAt, Ko.val, bindE, List.filter_cons, bd_data, bd_chain, bd_guard, bd_phase, bd_text, bd_gc] at hd)
            (first | simp [puts, dsts, Act.put, hd, e26] | simp [puts, dsts, Act.put, e26])
            clear hd e26
            go_wp2_with (at_builtin; refine wp_pushP w5 w5.heap.size rfl rfl (.tmp 19) (.tmp 26) rfl (pubN m s) _ _ _ (w0.heap.size + 1) w2.heap.size H2.out (by simp [Value.oneCell']) _ k (copN m (ss.take k)) F0 (own_growK _ OW.out H3.out) HF0.out hzd hz5 HL.out rfl rfl (by omega) ?_; intro A8 c8 w8 O8 C8; rw [HST.out] at O8)
            exact ⟨_, rfl, by first | exact isVal.yes | exact isVal.no, ⟨A8, c8, rfl, O8.out, ((Chg.of H3.out (by simp)).trans (Chg.of (gbA (gbR w5 none) _) (by simp))).trans C8.out⟩, C8.out⟩
          · intro f w4 hG hI hold hd
            have hS4 := (Chg.refl _ w2).trans (chgDr hG)
            clear hG
            clear hold
            obtain ⟨A8, c8, eB, h1, h2⟩ := hI
            have eB : f 27 = .slice A8 (k + 1) c8 := eB
            have H1 := Lib.hid h1
            have H2 := Lib.hid h2
            clear h1 h2
            (try simp [depsO, dstAt, oAt, Ko.val, bindE, List.filter_cons, bd_data, bd_chain, bd_guard, bd_phase, bd_text, bd_gc] at hd)
            (first | simp [puts, dsts, Act.put, hd, eB] | simp [puts, dsts, Act.put, eB])
            clear hd eB
            go_wp2_with fail
            exact ⟨_, rfl, by first | exact isVal.yes | exact isVal.no, ⟨A8, c8, rfl, H1.out, H2.out⟩, (Chg.refl _ _)⟩
        intro f w8 hG hI hd
        have hS5 := (Chg.refl _ w2).trans (chgDr hG)
        clear hG
        simp [knowsO, dstAt, Ko.val] at hd
        simp only [puts, dsts, Act.put, hd, List.filterMap_cons, List.filterMap_nil, List.setIfInBounds_toArray, List.set_cons_zero, List.set_cons_succ]
        clear hd
        obtain ⟨A8, c8, e5, O8, C8⟩ := hI
        have e5 : f 5 = .slice A8 (k + 1) c8 := e5
        have D8 := Lib.hid (D2.out.chg C8 (fun hy => by have := (HF0.out _ hy).1; omega))
        have G8 := Lib.hid (gbChg G2.out C8 (fun y hy => by have := (HF0.out y hy).1; omega))
        have HO8 := Lib.hid O8
        clear O8 C8 hS5
        rw [e5]
        clear e5
        go_wp2_with fail
        go_roundw
        case rel => exact ⟨k + 1, c8, A8, by omega, by go_num, rfl, HO8, D8, G8⟩
        case measure => simp [intOf]; omega
      · have hkr : k = r := by omega
        subst hkr
        go_wp2_with fail
        go_ret
        refine ⟨_, rfl, ?_, GR.out⟩
        have := RO.out
        rw [List.take_of_length_le (by rw [HR.out]; omega)] at this
        rw [cpsR_yes ASK.out]
        exact this.lo (Nat.le_succ _)
  · have HASK := Lib.hid (askQ_no ask)
    have NASK := Lib.hid ask
    clear ask
    go_loopw [5, 6] (fun t i wr => t = .slice (some ⟨w1.heap.size, 0, none⟩) 0 0 ∧ i = .int .i64 0 ∧ wr = wl) (fun _ i _ => 0)
    case atStart => exact ⟨rfl, rfl, rfl⟩
    case round =>
      obtain ⟨rfl, rfl, rfl⟩ := hrel
      have c0 := DL.out.cell 0
      have c1' := DL.out.cell 1
      simp at c0 c1'
      by_cases hlt : 0 < r
      · have i1 : (0 : Int) < (r : Int) := by omega
        go_wp2_with (go_at_call 72; refine (specl32Ask_c m ss _ _ wr (HV.out.grow GL.out) ((cints ss).grow HU.out GL.out)).mono ?_; rintro e w2 ⟨rfl, g2⟩; rw [HASK.out])
        go_ret
        refine ⟨_, rfl, ?_, gbT GL.out g2⟩
        rw [cpsR_no NASK.out]
        exact (OL.out.grow g2).lo (Nat.le_succ _)
      · have i1 : ¬ (0 : Int) < (r : Int) := by omega
        go_wp2_with fail
        go_ret
        refine ⟨_, rfl, ?_, GL.out⟩
        rw [cpsR_no NASK.out]
        exact OL.out.lo (Nat.le_succ _)
end Go.Proofs.Ythdfkiaoahpjpaa
