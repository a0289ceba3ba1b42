/-
  FnRounds: the walk.
-/
import Derived.Test.YthaadgdeadbhkaaMgFnCosts27
import Derived.Test.YthaadgdeadbhkaaMgFnCosts30
import Derived.Test.YthaadgdeadbhkaaMgFnCosts17
import Derived.Test.YthaadgdeadbhkaaMgFnCosts24
import Derived.Test.YthaadgdeadbhkaaMgFnCosts25
import Derived.Test.YthaadgdeadbhkaaMgFnCosts28
namespace Go.Proofs.Ythaadgdeadbhkaa
open Go.RowKit
set_option linter.unusedVariables false
set_option linter.unusedSimpArgs false
end Go.Proofs.Ythaadgdeadbhkaa
/-
  l24Value, l28Error and TripleOpen of the reference (printed by wip/gen_striple.py).
-/
namespace Go.Proofs.Ythaadgdeadbhkaa
open Go.RowKit
set_option linter.unusedVariables false
set_option linter.unusedSimpArgs false
set_option maxHeartbeats 1000000 in
theorem specl24Value_y (k : KM) (a : AuM) (kv av : Value) (w0 : World) (h : AggR w0 (ckeys k) kv) (ha : AggR w0 (cauth a) av) (he : elemsB k.p a.sh = true) (wa : awf a) :
    Calls Try.prog 160 #[kv, av] w0 fun e w' => e = .returned (.int .i64 (fsum k.p a.sh)) ∧ w0.grownBy w' none := by
  obtain ⟨A, c, rfl, hc, hm, hI⟩ := ckeys_sl h
  obtain ⟨Ba, da, Ca, fa, rfl, _, _, _, _, hSa, hMa⟩ := cauth_sl ha
  obtain ⟨w1, hw1⟩ : ∃ x : World, ((w0.alloc (.cells #[.int .i64 k.p, .slice A k.al.length c] 26)).alloc (.cells #[.slice Ba a.sh.length da, .slice Ca a.mc.length fa] 44)) = x := ⟨_, rfl⟩
  have G1 : Hid (w0.grownBy w1 none) := by rw [← hw1]; exact gbA (gbA (gbR _ _) _) _
  have D0 : Hid (Blk w1 w0.heap.size 26 #[.int .i64 k.p, .slice A k.al.length c]) := by rw [← hw1]; exact (Blk.new w0 _ _).grow (gbA (gbR _ _) _)
  have D1 : Hid (Blk w1 (w0.heap.size + 1) 44 #[.slice Ba a.sh.length da, .slice Ca a.mc.length fa]) := by rw [← hw1]; exact Blk.new' _ _ _ _ (by simp)
  have IS := Lib.hid (hSa.grow G1.out)
  have WA := Lib.hid wa
  have HE := Lib.hid he
  clear h ha hI hSa hMa wa he
  go_enter Try.func160, Try.ntmps160
  have k0 := D0.out.cell 0
  have k1 := D0.out.cell 1
  have a0 := D1.out.cell 0
  have a1 := D1.out.cell 1
  simp at k0 k1 a0 a1
  go_wp2_with fail
  clear hw1
  refine (specFSum_y k.p Ba _ da a.sh _ HE.out IS.out (by have := WA.out.1; omega)).mono ?_
  rintro e w2 ⟨rfl, rfl⟩
  go_wp2_with fail
  exact bodyPost_ret (v := .int .i64 (fsum k.p a.sh)) (by simp [results, Try.results160]) rfl ⟨rfl, G1.out⟩
theorem specl28Error_c (A : Option Addr) (n c : Nat) (es : List Int) (i : Nat) (w : World) (h : Ints w A n es) (hi : i ≤ 1048576) :
    Calls Try.prog 144 #[.slice A n c, .int .i64 i] w fun e w' => e = .returned (.int .i64 (errAt es i)) ∧ w = w' := by
  have HL := Lib.hid h.len
  by_cases hlt : i < n
  · obtain ⟨b, o, rfl, hb, hc⟩ := h.at_ (by omega)
    have c0 := hc i hlt
    have HE : Hid (errAt es i = es.getD i 0) := rfl
    have i1 : (i : Int) < (n : Int) := by omega
    clear hc h
    go_enter Try.func144, Try.ntmps144
    go_wp2_with fail
    go_ret
    exact ⟨retI HE.out.symm, rfl⟩
  · have HE : Hid (errAt es i = 0) := by
      unfold Hid errAt
      rw [List.getD_eq_getElem?_getD, List.getElem?_eq_none (by rw [HL.out]; omega)]
      rfl
    have i1 : ¬ (i : Int) < (n : Int) := by omega
    clear h
    go_enter Try.func144, Try.ntmps144
    go_wp2_with fail
    go_ret
    exact ⟨retI HE.out.symm, rfl⟩
set_option maxHeartbeats 4000000 in
set_option maxRecDepth 100000 in
theorem specTripleOpen_y (k : KM) (x y : AuM) (t : TrM) (kv xv yv tv : Value) (w0 : World) (h : AggR w0 (ckeys k) kv) (hx : AggR w0 (cauth x) xv) (hy : AggR w0 (cauth y) yv) (ht : AggR w0 (ctriple t) tv) (wk : kwf k) (wx : awf x) (wy : awf y) (wt : twf t) (hok : openB k x y t = true) :
    Calls Try.prog 142 #[kv, xv, yv, tv] w0 fun r w' => r = .returned (.tuple #[.agg #[.int .i64 (openD k x y t), .int .i64 (openE k x y t)], .bool true]) ∧ w0.grownBy w' none := by
  obtain ⟨A, c, rfl, hc, hm, hI⟩ := ckeys_sl h
  obtain ⟨X1, x1, X2, x2, rfl, _, _, _, _, _, _⟩ := cauth_sl hx
  obtain ⟨Y1, y1, Y2, y2, rfl, _, _, _, _, _, _⟩ := cauth_sl hy
  obtain ⟨A1, a1, A2, a2, B1, b1, B2, b2, C1, c1, C2, c2, rfl, ha, hb, hcc⟩ := ctriple_sl ht
  obtain ⟨w1, hw1⟩ : ∃ z : World, (((((w0.alloc (.cells #[.int .i64 k.p, .slice A k.al.length c] 26)).alloc (.cells #[.slice X1 x.sh.length x1, .slice X2 x.mc.length x2] 44)).alloc (.cells #[.slice Y1 y.sh.length y1, .slice Y2 y.mc.length y2] 44)).alloc (.cells #[.slice A1 t.a.sh.length a1, .slice A2 t.a.mc.length a2, .slice B1 t.b.sh.length b1, .slice B2 t.b.mc.length b2, .slice C1 t.c.sh.length c1, .slice C2 t.c.mc.length c2] 46)).alloc (.cells #[.int .i64 0, .int .i64 0] 108)) = z := ⟨_, rfl⟩
  have G1 : Hid (w0.grownBy w1 none) := by rw [← hw1]; exact gbA (gbA (gbA (gbA (gbA (gbR _ _) _) _) _) _) _
  have z1 : Hid (w1.heap.size = w0.heap.size + 5) := by rw [← hw1]; exact Lib.hid (by simp)
  have D0 : Hid (Blk w1 (w0.heap.size) 26 #[.int .i64 k.p, .slice A k.al.length c]) := by rw [← hw1]; exact ((((Blk.new w0 _ _).grow (gbA (gbR _ _) _)).grow (gbA (gbR _ _) _)).grow (gbA (gbR _ _) _)).grow (gbA (gbR _ _) _)
  have D1 : Hid (Blk w1 (w0.heap.size + 1) 44 #[.slice X1 x.sh.length x1, .slice X2 x.mc.length x2]) := by rw [← hw1]; exact (((Blk.new' _ _ _ _ (by simp)).grow (gbA (gbR _ _) _)).grow (gbA (gbR _ _) _)).grow (gbA (gbR _ _) _)
  have D2 : Hid (Blk w1 (w0.heap.size + 1 + 1) 44 #[.slice Y1 y.sh.length y1, .slice Y2 y.mc.length y2]) := by rw [← hw1]; exact ((Blk.new' _ _ _ _ (by simp)).grow (gbA (gbR _ _) _)).grow (gbA (gbR _ _) _)
  have D3 : Hid (Blk w1 (w0.heap.size + 1 + 1 + 1) 46 #[.slice A1 t.a.sh.length a1, .slice A2 t.a.mc.length a2, .slice B1 t.b.sh.length b1, .slice B2 t.b.mc.length b2, .slice C1 t.c.sh.length c1, .slice C2 t.c.mc.length c2]) := by rw [← hw1]; exact (Blk.new' _ _ _ _ (by simp)).grow (gbA (gbR _ _) _)
  have D4 : Hid (Blk w1 (w0.heap.size + 1 + 1 + 1 + 1) 108 #[.int .i64 0, .int .i64 0]) := by rw [← hw1]; exact Blk.new' _ _ _ _ (by simp)
  have HK := Lib.hid (AggR.grow h G1.out)
  have HX := Lib.hid (AggR.grow hx G1.out)
  have HY := Lib.hid (AggR.grow hy G1.out)
  have HA := Lib.hid (AggR.grow ha G1.out)
  have HB := Lib.hid (AggR.grow hb G1.out)
  have IK := Lib.hid h
  have IX := Lib.hid hx
  have IY := Lib.hid hy
  have IA := Lib.hid ha
  have IB := Lib.hid hb
  have WK := Lib.hid wk
  have WX := Lib.hid wx
  have WY := Lib.hid wy
  have WA := Lib.hid wt.1
  have WB := Lib.hid wt.2.1
  clear h hx hy ht ha hb hcc hI wk wx wy wt
  have HFB : Hid (openB k x y t = (formB k x && formB k y && formB k t.a && formB k t.b)) := rfl
  have HFD : Hid (openD k x y t = if openB k x y t then (fsum k.p x.sh - fsum k.p t.a.sh) % k.p else 0) := rfl
  have HFE : Hid (openE k x y t = if openB k x y t then (fsum k.p y.sh - fsum k.p t.b.sh) % k.p else 0) := rfl
  go_enter Try.func142, Try.ntmps142
  have k0 := D0.out.cell 0
  have k1 := D0.out.cell 1
  have x0 := D1.out.cell 0
  have x1' := D1.out.cell 1
  have y0 := D2.out.cell 0
  have y1' := D2.out.cell 1
  have t0 := D3.out.cell 0
  have t1 := D3.out.cell 1
  have t2 := D3.out.cell 2
  have t3 := D3.out.cell 3
  simp at k0 k1 x0 x1' y0 y1' t0 t1 t2 t3
  go_wp2_with fail
  clear k0 k1 x0 x1' y0 y1' t0 t1 t2 t3 hw1
  have HQ := Lib.hid hok
  have hq := hok
  unfold openB at hq
  obtain ⟨hq, qb⟩ := Bool.and_eq_true_iff.1 hq
  obtain ⟨hq, qa⟩ := Bool.and_eq_true_iff.1 hq
  obtain ⟨qx, qy⟩ := Bool.and_eq_true_iff.1 hq
  have Q0 := Lib.hid qx
  have Q1 := Lib.hid qy
  have Q2 := Lib.hid qa
  have Q3 := Lib.hid qb
  clear hq qx qy qa qb hok HFB
  refine (specl23Form_c k x _ _ _ (AggR.grow HK.out (gbR w1 none)) (AggR.grow HX.out (gbR w1 none)) WK.out WX.out).mono ?_
  rintro r v0 ⟨rfl, g2⟩
  rw [Q0.out]
  have gz0 := Lib.hid (g2)
  clear g2
  have k0 := (D0.out.grow gz0.out).cell 0
  have k1 := (D0.out.grow gz0.out).cell 1
  have x0 := (D1.out.grow gz0.out).cell 0
  have x1' := (D1.out.grow gz0.out).cell 1
  have y0 := (D2.out.grow gz0.out).cell 0
  have y1' := (D2.out.grow gz0.out).cell 1
  have t0 := (D3.out.grow gz0.out).cell 0
  have t1 := (D3.out.grow gz0.out).cell 1
  have t2 := (D3.out.grow gz0.out).cell 2
  have t3 := (D3.out.grow gz0.out).cell 3
  simp at k0 k1 x0 x1' y0 y1' t0 t1 t2 t3
  go_wp2_with fail
  clear k0 k1 x0 x1' y0 y1' t0 t1 t2 t3
  refine (specl23Form_c k y _ _ _ (AggR.grow HK.out gz0.out) (AggR.grow HY.out gz0.out) WK.out WY.out).mono ?_
  rintro r v1 ⟨rfl, g2⟩
  rw [Q1.out]
  have gz1 := Lib.hid (gbT gz0.out g2)
  clear g2
  have k0 := (D0.out.grow gz1.out).cell 0
  have k1 := (D0.out.grow gz1.out).cell 1
  have x0 := (D1.out.grow gz1.out).cell 0
  have x1' := (D1.out.grow gz1.out).cell 1
  have y0 := (D2.out.grow gz1.out).cell 0
  have y1' := (D2.out.grow gz1.out).cell 1
  have t0 := (D3.out.grow gz1.out).cell 0
  have t1 := (D3.out.grow gz1.out).cell 1
  have t2 := (D3.out.grow gz1.out).cell 2
  have t3 := (D3.out.grow gz1.out).cell 3
  simp at k0 k1 x0 x1' y0 y1' t0 t1 t2 t3
  go_wp2_with fail
  clear k0 k1 x0 x1' y0 y1' t0 t1 t2 t3
  refine (specl23Form_c k t.a _ _ _ (AggR.grow HK.out gz1.out) (AggR.grow HA.out gz1.out) WK.out WA.out).mono ?_
  rintro r v2 ⟨rfl, g2⟩
  rw [Q2.out]
  have gz2 := Lib.hid (gbT gz1.out g2)
  clear g2
  have k0 := (D0.out.grow gz2.out).cell 0
  have k1 := (D0.out.grow gz2.out).cell 1
  have x0 := (D1.out.grow gz2.out).cell 0
  have x1' := (D1.out.grow gz2.out).cell 1
  have y0 := (D2.out.grow gz2.out).cell 0
  have y1' := (D2.out.grow gz2.out).cell 1
  have t0 := (D3.out.grow gz2.out).cell 0
  have t1 := (D3.out.grow gz2.out).cell 1
  have t2 := (D3.out.grow gz2.out).cell 2
  have t3 := (D3.out.grow gz2.out).cell 3
  simp at k0 k1 x0 x1' y0 y1' t0 t1 t2 t3
  go_wp2_with fail
  clear k0 k1 x0 x1' y0 y1' t0 t1 t2 t3
  refine (specl23Form_c k t.b _ _ _ (AggR.grow HK.out gz2.out) (AggR.grow HB.out gz2.out) WK.out WB.out).mono ?_
  rintro r v3 ⟨rfl, g2⟩
  rw [Q3.out]
  have gz3 := Lib.hid (gbT gz2.out g2)
  clear g2
  have gz := gz3.out
  clear gz0 gz1 gz2 gz3
  have qk := (form_is Q0.out).1
  have ex := (form_is Q0.out).2.2.2.1
  have ey := (form_is Q1.out).2.2.2.1
  have ea := (form_is Q2.out).2.2.2.1
  have eb := (form_is Q3.out).2.2.2.1
  have hok := HQ.out
  rw [hok, if_pos rfl] at HFD HFE
  have kf := (keys_is qk).1
  have EX := Lib.hid ex
  have EY := Lib.hid ey
  have EA := Lib.hid ea
  have EB := Lib.hid eb
  clear qk ex ey ea eb
  obtain ⟨FX, hFX⟩ : ∃ z, fsum k.p x.sh = z := ⟨_, rfl⟩
  obtain ⟨FA, hFA⟩ : ∃ z, fsum k.p t.a.sh = z := ⟨_, rfl⟩
  obtain ⟨FY, hFY⟩ : ∃ z, fsum k.p y.sh = z := ⟨_, rfl⟩
  obtain ⟨FB, hFB⟩ : ∃ z, fsum k.p t.b.sh = z := ⟨_, rfl⟩
  have LFX : Hid (elemB k.p FX = true) := by rw [← hFX]; exact Lib.hid (fsum_elem kf _)
  have LFA : Hid (elemB k.p FA = true) := by rw [← hFA]; exact Lib.hid (fsum_elem kf _)
  have LFY : Hid (elemB k.p FY = true) := by rw [← hFY]; exact Lib.hid (fsum_elem kf _)
  have LFB : Hid (elemB k.p FB = true) := by rw [← hFB]; exact Lib.hid (fsum_elem kf _)
  rw [hFX, hFA] at HFD
  rw [hFY, hFB] at HFE
  obtain ⟨DD, hDD⟩ : ∃ z, (FX - FA) % k.p = z := ⟨_, rfl⟩
  obtain ⟨EE, hEE⟩ : ∃ z, (FY - FB) % k.p = z := ⟨_, rfl⟩
  rw [hDD] at HFD
  rw [hEE] at HFE
  have HFX := Lib.hid hFX
  have HFA := Lib.hid hFA
  have HFY := Lib.hid hFY
  have HFB := Lib.hid hFB
  have HDD := Lib.hid hDD
  have HEE := Lib.hid hEE
  have HOK := Lib.hid hok
  have E0 := Lib.hid (D0.out.grow gz)
  have E1 := Lib.hid (D1.out.grow gz)
  have E2 := Lib.hid (D2.out.grow gz)
  have E3 := Lib.hid (D3.out.grow gz)
  have E4 := Lib.hid (D4.out.grow gz)
  have GW := Lib.hid (gbT G1.out gz)
  clear D0 D1 D2 D3 D4 HK HX HY HA HB G1 z1 gz hFX hFA hFY hFB hDD hEE hok
  go_wp2_with fail
  obtain ⟨gR, hgR⟩ : ∃ g, w0.heap.size + 1 + 1 + 1 + 1 = g := ⟨_, rfl⟩
  have hwR : w0.heap.size ≤ gR := by omega
  rw [hgR] at E4 ⊢
  refine region_chain [.rd (.pointer (some ⟨w0.heap.size, 0, none⟩)), .rd (.int .i64 k.p), .rd (.agg #[.int .i64 k.p, .slice A k.al.length c]), .rd (.agg #[.slice X1 x.sh.length x1, .slice X2 x.mc.length x2]), .fl (isV (.int .i64 FX)), .rd (.agg #[.int .i64 k.p, .slice A k.al.length c]), .rd (.pointer (some ⟨w0.heap.size + 1 + 1 + 1, 0, none⟩)), .rd (.agg #[.slice A1 t.a.sh.length a1, .slice A2 t.a.mc.length a2]), .fl (isV (.int .i64 FA)), .fl (isV (.int .i64 DD)), .rd (.pointer (some ⟨w0.heap.size, 0, none⟩)), .rd (.int .i64 k.p), .rd (.agg #[.int .i64 k.p, .slice A k.al.length c]), .rd (.agg #[.slice Y1 y.sh.length y1, .slice Y2 y.mc.length y2]), .fl (isV (.int .i64 FY)), .rd (.agg #[.int .i64 k.p, .slice A k.al.length c]), .rd (.pointer (some ⟨w0.heap.size + 1 + 1 + 1, 2, none⟩)), .rd (.agg #[.slice B1 t.b.sh.length b1, .slice B2 t.b.mc.length b2]), .fl (isV (.int .i64 FB)), .fl (isV (.int .i64 EE)), .rd (.agg #[.int .i64 DD, .int .i64 EE]), .ch, .ch] (fun z => z = gR)
    [⟨[], fun _ w' => v3.drew.grownBy w' none⟩,
     ⟨[], fun _ w' => Blk w' gR 108 #[.int .i64 DD, .int .i64 EE] ∧ Chg (fun z => z = gR) v3.drew w'⟩,
     ⟨[9], fun l w' => l.getD 0 undef = .bool true ∧ Blk w' gR 108 #[.int .i64 DD, .int .i64 EE] ∧ Chg (fun z => z = gR) v3.drew w'⟩]
    (by kernel_rfl) (by kernel_rfl) (by kernel_rfl) 2 (by kernel_rfl) ?_ (gbR _ _) rfl ?_ ?_
  · have hst : stablesF [⟨[], fun _ w' => v3.drew.grownBy w' none⟩,
     ⟨[], fun _ w' => Blk w' gR 108 #[.int .i64 DD, .int .i64 EE] ∧ Chg (fun z => z = gR) v3.drew w'⟩,
     ⟨[9], fun l w' => l.getD 0 undef = .bool true ∧ Blk w' gR 108 #[.int .i64 DD, .int .i64 EE] ∧ Chg (fun z => z = gR) v3.drew w'⟩] := by
      intro F hF
      simp only [List.mem_cons, List.not_mem_nil, or_false] at hF
      rcases hF with rfl | rfl | rfl
      · exact fun l w1 w2 h hg => gbT h hg
      · rintro l w1 w2 ⟨h1, h3⟩ hg
        exact ⟨h1.grow hg, h3.trans (Chg.of hg (by simp))⟩
      · rintro l w1 w2 ⟨h0, h1, h3⟩ hg
        exact ⟨h0, h1.grow hg, h3.trans (Chg.of hg (by simp))⟩
    simp only [flOk, true_and, and_true]
    exact ⟨⟨isV_st _, hst⟩, ⟨isV_st _, hst⟩, ⟨isV_st _, hst⟩, ⟨isV_st _, hst⟩, ⟨isV_st _, hst⟩, isV_st _, hst⟩
  · simp only [hopsK, hopK, Kd.next, and_true]
    refine ⟨?_, ?_, ?_, ?_, ?_, ?_, ?_, ?_, ?_, ?_, ?_, ?_, ?_, ?_, ?_, ?_, ?_, ?_, ?_, ?_, ?_, ?_, ?_⟩
    rotate_left 4
    · intro f w4 hG hd
      have kg := Lib.hid (gb_chg (gbT GW.out (gbD (gbR v3 none))) hG hwR)
      (try simp [depsC, dstAt, kAt, bindE, List.filter_cons, bd_data, bd_chain, bd_guard, bd_phase, bd_text, bd_gc] at hd)
      (first | simp [puts, dsts, Act.put, hd] | simp [puts, dsts, Act.put])
      clear hd
      go_wp2_with fail
      refine (specl24Value_y k x _ _ w4 (AggR.grow IK.out kg.out) (AggR.grow IX.out kg.out) EX.out WX.out).mono ?_
      rintro e w6 ⟨rfl, g6⟩
      rw [HFX.out]
      have G6 := Lib.hid g6
      clear g6 kg
      go_wp2_with fail
      exact ⟨_, rfl, rfl, G6.out⟩
    rotate_left 3
    · intro f w4 hG hd
      have kg := Lib.hid (gb_chg (gbT GW.out (gbD (gbR v3 none))) hG hwR)
      (try simp [depsC, dstAt, kAt, bindE, List.filter_cons, bd_data, bd_chain, bd_guard, bd_phase, bd_text, bd_gc] at hd)
      (first | simp [puts, dsts, Act.put, hd] | simp [puts, dsts, Act.put])
      clear hd
      go_wp2_with fail
      refine (specl24Value_y k t.a _ _ w4 (AggR.grow IK.out kg.out) (AggR.grow IA.out kg.out) EA.out WA.out).mono ?_
      rintro e w6 ⟨rfl, g6⟩
      rw [HFA.out]
      have G6 := Lib.hid g6
      clear g6 kg
      go_wp2_with fail
      exact ⟨_, rfl, rfl, G6.out⟩
    · intro f w4 hG hd
      (try simp [depsC, dstAt, kAt, bindE, List.filter_cons, bd_data, bd_chain, bd_guard, bd_phase, bd_text, bd_gc] at hd)
      simp only [isV] at hd
      (first | simp [puts, dsts, Act.put, hd] | simp [puts, dsts, Act.put])
      clear hd
      go_wp2_with fail
      refine (specFSub_y k.p FX FA w4 LFX.out LFA.out).mono ?_
      rintro e w6 ⟨rfl, g6⟩
      rw [HDD.out]
      have G6 := Lib.hid g6
      clear g6
      go_wp2_with fail
      exact ⟨_, rfl, rfl, G6.out⟩
    rotate_left 4
    · intro f w4 hG hd
      have kg := Lib.hid (gb_chg (gbT GW.out (gbD (gbR v3 none))) hG hwR)
      (try simp [depsC, dstAt, kAt, bindE, List.filter_cons, bd_data, bd_chain, bd_guard, bd_phase, bd_text, bd_gc] at hd)
      (first | simp [puts, dsts, Act.put, hd] | simp [puts, dsts, Act.put])
      clear hd
      go_wp2_with fail
      refine (specl24Value_y k y _ _ w4 (AggR.grow IK.out kg.out) (AggR.grow IY.out kg.out) EY.out WY.out).mono ?_
      rintro e w6 ⟨rfl, g6⟩
      rw [HFY.out]
      have G6 := Lib.hid g6
      clear g6 kg
      go_wp2_with fail
      exact ⟨_, rfl, rfl, G6.out⟩
    rotate_left 3
    · intro f w4 hG hd
      have kg := Lib.hid (gb_chg (gbT GW.out (gbD (gbR v3 none))) hG hwR)
      (try simp [depsC, dstAt, kAt, bindE, List.filter_cons, bd_data, bd_chain, bd_guard, bd_phase, bd_text, bd_gc] at hd)
      (first | simp [puts, dsts, Act.put, hd] | simp [puts, dsts, Act.put])
      clear hd
      go_wp2_with fail
      refine (specl24Value_y k t.b _ _ w4 (AggR.grow IK.out kg.out) (AggR.grow IB.out kg.out) EB.out WB.out).mono ?_
      rintro e w6 ⟨rfl, g6⟩
      rw [HFB.out]
      have G6 := Lib.hid g6
      clear g6 kg
      go_wp2_with fail
      exact ⟨_, rfl, rfl, G6.out⟩
    · intro f w4 hG hd
      (try simp [depsC, dstAt, kAt, bindE, List.filter_cons, bd_data, bd_chain, bd_guard, bd_phase, bd_text, bd_gc] at hd)
      simp only [isV] at hd
      (first | simp [puts, dsts, Act.put, hd] | simp [puts, dsts, Act.put])
      clear hd
      go_wp2_with fail
      refine (specFSub_y k.p FY FB w4 LFY.out LFB.out).mono ?_
      rintro e w6 ⟨rfl, g6⟩
      rw [HEE.out]
      have G6 := Lib.hid g6
      clear g6
      go_wp2_with fail
      exact ⟨_, rfl, rfl, G6.out⟩
    rotate_left 1
    · intro f w4 hG hI hd
      have hI : v3.drew.grownBy w4 none := hI
      (try simp [depsC, dstAt, kAt, bindE, List.filter_cons, bd_data, bd_chain, bd_guard, bd_phase, bd_text, bd_gc] at hd)
      have R4 := E4.out.grow (gbT (gbD (gbR v3 none)) hI)
      have f0 := R4.frozen 0
      have f1 := R4.frozen 1
      have b0 := R4.cell 0
      have b1 := R4.cell 1
      simp at b0 b1
      have RS := Lib.hid (blk_setCells R4 [.int .i64 DD, .int .i64 EE] rfl)
      have CW := Lib.hid (chg_setCells gR [.int .i64 DD, .int .i64 EE] 0 w4)
      have CS := Lib.hid ((Chg.of (S := fun y => y = gR) hI (by simp)).trans CW.out)
      clear R4 hI
      simp [puts, dsts, Act.put, hd]
      clear hd
      go_wp2_with fail
      exact ⟨rfl, ⟨.bool false, RS.out, CS.out⟩, CW.out, by simp [keepsC, dstAt, isV]⟩
    · intro f w4 hG hI hd
      obtain ⟨R4, C4⟩ := hI
      clear hd
      simp [puts, dsts, Act.put]
      go_wp2_with fail
      exact ⟨.bool true, rfl, rfl, R4, C4⟩
    all_goals
      intro f w4 hG hd
      have kg := gbD (gbR v3 none)
      have k0 := ((E0.out.grow kg).chg hG (by omega)).cell 0
      have k1 := ((E0.out.grow kg).chg hG (by omega)).cell 1
      have x0 := ((E1.out.grow kg).chg hG (by omega)).cell 0
      have x1' := ((E1.out.grow kg).chg hG (by omega)).cell 1
      have y0 := ((E2.out.grow kg).chg hG (by omega)).cell 0
      have y1' := ((E2.out.grow kg).chg hG (by omega)).cell 1
      have t0 := ((E3.out.grow kg).chg hG (by omega)).cell 0
      have t1 := ((E3.out.grow kg).chg hG (by omega)).cell 1
      have t2 := ((E3.out.grow kg).chg hG (by omega)).cell 2
      have t3 := ((E3.out.grow kg).chg hG (by omega)).cell 3
      simp at k0 k1 x0 x1' y0 y1' t0 t1 t2 t3
      clear kg
      (try simp [depsC, dstAt, kAt, bindE, List.filter_cons, bd_data, bd_chain, bd_guard, bd_phase, bd_text, bd_gc] at hd)
      try simp only [isV] at hd
      (first | simp [puts, dsts, Act.put, hd] | simp [puts, dsts, Act.put])
      clear hd
      go_wp2_with fail
      exact ⟨rfl, rfl⟩
  intro f w9 hI hd
  obtain ⟨e9, hBR, hCZ⟩ := hI
  have hCZ := chgDr hCZ
  have GZ := Lib.hid (gb_chg GW.out hCZ hwR)
  have e9 : f 9 = .bool true := e9
  simp only [puts, dsts, Act.put, List.filterMap_cons, List.filterMap_nil, List.setIfInBounds_toArray, List.set_cons_zero, List.set_cons_succ, e9]
  clear hd e9
  go_wp2_with fail
  refine ret_ct Try.results142 (by rfl) stOpening (cs := #[.int .i64 DD, .int .i64 EE]) hBR (by rfl) (by rfl) ?_
  exact ⟨by rw [HFD.out, HFE.out]; rfl, GZ.out⟩
end Go.Proofs.Ythaadgdeadbhkaa
/-
  l06Tape and l28Zero of the reference.
-/
namespace Go.Proofs.Ythaadgdeadbhkaa
open Go.RowKit
set_option linter.unusedVariables false
set_option linter.unusedSimpArgs false
theorem specl06Tape_c (s a : Int) (w : World) :
    Calls Try.prog 80 #[.agg #[.int .i64 s, .int .i64 a]] w fun e w' => e = .returned (.bool (tapeB s a && !decide (900000 < a))) ∧ w.grownBy w' none := by
  go_enter Try.func80, Try.ntmps80
  go_wp2_with fail
  refine (specTapeOk_c s a _).mono ?_
  rintro e w1 ⟨rfl, g1⟩
  have B1 := Blk.grow (Blk.new w 31 #[.int .i64 s, .int .i64 a]) g1
  have c0 := B1.cell 0
  have c1 := B1.cell 1
  simp at c0 c1
  have G1 := Lib.hid (gbT (gbA (gbR w none) _) g1)
  clear g1 B1
  cases hb : tapeB s a
  · go_wp2_with fail
    go_ret
    exact ⟨retB (by rw [hb]; rfl), G1.out⟩
  · obtain ⟨d, hd⟩ : ∃ d, decide (a ≤ 900000) = d := ⟨_, rfl⟩
    have HD : Hid ((true && !decide (900000 < a)) = d) := by
      unfold Hid
      rw [← hd, Bool.true_and, ← decide_not]
      exact decide_eq_decide.mpr (by omega)
    go_wp2_with fail
    go_ret
    exact ⟨retB (by rw [hb]; exact HD.out.symm), G1.out⟩
def rows2F (lo n : Nat) (v : Value) (w : World) : Prop := ∃ A c B d, v = .agg #[.slice A n c, .slice B n d] ∧ row1 lo n (List.replicate n 0) (.slice A n c) w ∧ row1 lo n (List.replicate n 0) (.slice B n d) w
theorem rows2F_st {lo n : Nat} : stable (rows2F lo n) := fun v w w' ⟨A, c, B, d, h1, h2, h3⟩ hg => ⟨A, c, B, d, h1, h2.grow hg, h3.grow hg⟩
set_option maxHeartbeats 2000000 in
set_option maxRecDepth 100000 in
theorem specl28Zero_c (n : Nat) (w : World) (hn : n ≤ 1048576) :
    Calls Try.prog 85 #[.int .i64 n] w fun e w' => ∃ v, e = .returned v ∧ zroF n v w' ∧ w.grownBy w' none := by
  obtain ⟨w1, hw1⟩ : ∃ y : World, w.alloc (.cells #[.slice none 0 0, .slice none 0 0] 44) = y := ⟨_, rfl⟩
  have G1 : Hid (w.grownBy w1 none) := by rw [← hw1]; exact gbA (gbR _ _) _
  have z1 : Hid (w1.heap.size = w.heap.size + 1) := by rw [← hw1]; exact Lib.hid (by simp)
  have D0 : Hid (Blk w1 w.heap.size 44 #[.slice none 0 0, .slice none 0 0]) := by rw [← hw1]; exact Blk.new w _ _
  obtain ⟨gR, hgR⟩ : ∃ g, w.heap.size = g := ⟨_, rfl⟩
  have hgl : gR < w1.heap.size := by have := z1.out; omega
  have hgw : w.heap.size ≤ gR := by omega
  go_enter Try.func85, Try.ntmps85
  go_wp2_with fail
  rw [hgR] at D0
  clear hw1 hgR
  refine region_chain [.rd (.int .i64 n), .fl (row1 w1.heap.size n (List.replicate n 0)), .rd (.int .i64 n), .fl (row1 w1.heap.size n (List.replicate n 0)), .fl (rows2F w1.heap.size n), .ch] (fun _ => False)
    [⟨[], fun _ w' => w1.drew.grownBy w' none⟩,
     ⟨[], fun _ w' => (∃ A c B d, row1 w1.heap.size n (List.replicate n 0) (.slice A n c) w' ∧ row1 w1.heap.size n (List.replicate n 0) (.slice B n d) w' ∧ Blk w' gR 44 #[.slice A n c, .slice B n d]) ∧ Chg (fun y => y = gR) w1.drew w'⟩]
    (by kernel_rfl) (by kernel_rfl) (by kernel_rfl) 1 (by kernel_rfl) ?_ (gbR _ _) rfl ?_ ?_
  · have hst : stablesF [⟨[], fun _ w' => w1.drew.grownBy w' none⟩, ⟨[], fun _ w' => (∃ A c B d, row1 w1.heap.size n (List.replicate n 0) (.slice A n c) w' ∧ row1 w1.heap.size n (List.replicate n 0) (.slice B n d) w' ∧ Blk w' gR 44 #[.slice A n c, .slice B n d]) ∧ Chg (fun y => y = gR) w1.drew w'⟩] := by
      refine stF_cons (fun l w1 w2 h hg => gbT h hg) ?_
      exact stF_cons (chain_st fun l w1 w2 ⟨⟨A, c, B, d, h1, h2, h3⟩, h4⟩ hg => ⟨⟨A, c, B, d, h1.grow hg, h2.grow hg, h3.grow hg⟩, h4.trans (Chg.of hg (by simp))⟩) stF_nil
    simp only [flOk, true_and, and_true]
    exact ⟨⟨row1_st, hst⟩, ⟨row1_st, hst⟩, ⟨rows2F_st, hst⟩⟩
  · simp only [hopsK, hopK, Kd.next, and_true]
    refine ⟨?_, ?_, ?_, ?_, ?_, ?_⟩
    · intro f w4 hG hd
      have hg4 := gbT (gbD (gbR w1 none)) (chgF hG)
      (try simp [depsC, dstAt, kAt, bindE, List.filter_cons, bd_data, bd_chain, bd_guard, bd_phase, bd_text, bd_gc] at hd)
      (first | simp [puts, dsts, Act.put, hd] | simp [puts, dsts, Act.put])
      clear hd
      go_wp2_with fail
      exact ⟨rfl, rfl⟩
    · intro f w4 hG hd
      have hg4 := gbT (gbD (gbR w1 none)) (chgF hG)
      have hz4 := hg4.size
      (try simp [depsC, dstAt, kAt, bindE, List.filter_cons, bd_data, bd_chain, bd_guard, bd_phase, bd_text, bd_gc] at hd)
      (first | simp [puts, dsts, Act.put, hd] | simp [puts, dsts, Act.put])
      clear hd
      go_wp2_with (at_make; refine wp_makeN _ el_int rfl _ _ rfl n rfl rfl (by omega) (by unfold maxLen; omega) ?_; intro w6 o6 g6)
      rw [show (Value.int .i64 0).cells = #[.int .i64 0] from rfl, made_one] at o6
      exact ⟨_, rfl, row1.of (L := List.replicate n 0) (by rw [List.map_replicate]; exact own_base o6 hz4), g6⟩
    · intro f w4 hG hd
      have hg4 := gbT (gbD (gbR w1 none)) (chgF hG)
      (try simp [depsC, dstAt, kAt, bindE, List.filter_cons, bd_data, bd_chain, bd_guard, bd_phase, bd_text, bd_gc] at hd)
      (first | simp [puts, dsts, Act.put, hd] | simp [puts, dsts, Act.put])
      clear hd
      go_wp2_with fail
      exact ⟨rfl, rfl⟩
    · intro f w4 hG hd
      have hg4 := gbT (gbD (gbR w1 none)) (chgF hG)
      have hz4 := hg4.size
      (try simp [depsC, dstAt, kAt, bindE, List.filter_cons, bd_data, bd_chain, bd_guard, bd_phase, bd_text, bd_gc] at hd)
      (first | simp [puts, dsts, Act.put, hd] | simp [puts, dsts, Act.put])
      clear hd
      go_wp2_with (at_make; refine wp_makeN _ el_int rfl _ _ rfl n rfl rfl (by omega) (by unfold maxLen; omega) ?_; intro w6 o6 g6)
      rw [show (Value.int .i64 0).cells = #[.int .i64 0] from rfl, made_one] at o6
      exact ⟨_, rfl, row1.of (L := List.replicate n 0) (by rw [List.map_replicate]; exact own_base o6 hz4), g6⟩
    · intro f w4 hG hd
      have hg4 := gbT (gbD (gbR w1 none)) (chgF hG)
      have hz4 := hg4.size
      (try simp [depsC, dstAt, kAt, bindE, List.filter_cons, bd_data, bd_chain, bd_guard, bd_phase, bd_text, bd_gc] at hd)
      obtain ⟨h1, h2⟩ := hd
      obtain ⟨Aa, ca, ea, oa⟩ := h1
      obtain ⟨Ab, cb, eb, ob⟩ := h2
      rw [ea] at oa
      rw [eb] at ob
      simp [puts, dsts, Act.put, ea, eb]
      go_wp2_with fail
      exact ⟨_, rfl, ⟨_, _, _, _, rfl, row1.of oa, row1.of ob⟩, gbR _ _⟩
    · intro f w4 hG hI hd
      have hg4 := gbT (gbD (gbR w1 none)) (chgF hG)
      have hz4 := hg4.size
      have hI : w1.drew.grownBy w4 none := hI
      (try simp [depsC, dstAt, kAt, bindE, List.filter_cons, bd_data, bd_chain, bd_guard, bd_phase, bd_text, bd_gc] at hd)
      obtain ⟨⟨A, c, B, d, e7, h1, h2⟩, -⟩ := hd
      have R4 := D0.out.grow hg4
      have f0 := R4.frozen 0
      have f1 := R4.frozen 1
      have b0 := R4.cell 0
      have b1 := R4.cell 1
      simp at b0 b1
      have RS := Lib.hid (blk_setCells2 R4 (.slice A n c) (.slice B n d))
      have CH := chg_setCells gR [.slice A n c, .slice B n d] 0 w4
      have A1 := Lib.hid (row1_chg h1 CH hgl)
      have A2 := Lib.hid (row1_chg h2 CH hgl)
      have CS := Lib.hid ((Chg.of (S := fun y => y = gR) hI (by simp)).trans CH)
      clear R4 h1 h2 hI CH
      simp [puts, dsts, Act.put, e7]
      go_wp2_with fail
      exact ⟨rfl, .bool false, ⟨A, c, A1.out, B, d, A2.out, RS.out⟩, CS.out⟩
  intro f w5 hI hd
  simp only [puts, dsts, Act.put, List.filterMap_cons, List.filterMap_nil, List.setIfInBounds_toArray, List.set_cons_zero, List.set_cons_succ]
  obtain ⟨⟨A, c, B, d, h1, h2, hB⟩, hC⟩ := hI
  have G9 := Lib.hid (gb_chg (gbT G1.out (gbD (gbR w1 none))) hC hgw)
  obtain ⟨_, _, ea, oa⟩ := h1
  obtain ⟨_, _, eb, ob⟩ := h2
  have Z := Lib.hid (zroF.of oa ob)
  have HB := Lib.hid hB
  clear hd hC ea eb oa ob hB
  go_wp2_with fail
  refine ret_c Try.results85 (by rfl) stAuth (cs := #[.slice A n c, .slice B n d]) HB.out (by rfl) (by rfl) ?_
  exact ⟨_, rfl, Z.out, G9.out⟩
end Go.Proofs.Ythaadgdeadbhkaa
