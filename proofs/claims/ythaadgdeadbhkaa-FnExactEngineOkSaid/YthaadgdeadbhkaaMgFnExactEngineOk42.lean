/-
  Exact laws (cores printed by wip/gen_exact.py).
-/
import Derived.Test.YthaadgdeadbhkaaMgFnExactEngineOk39
import Derived.Test.YthaadgdeadbhkaaMgFnExactEngineOk41
namespace Go.Proofs.Ythaadgdeadbhkaa
open Go.RowKit
set_option linter.unusedVariables false
set_option linter.unusedSimpArgs false
set_option maxRecDepth 100000 in
set_option maxHeartbeats 4000000 in
theorem FnExactEngineOk.core (m : EM) (r0 : Bool) (w : World) (v0 : Value) (ha0 : AggR w (cengine m) v0) (hz0 : m.sz ≤ 1048576)
    (hs : ∀ (w : World) (v0 : Value), AggR w (cengine m) v0 → Calls Try.prog 25 #[v0] w fun e w' => e = .returned (.bool r0) ∧ w.grownBy w' none)
    (hi : ∀ (w : World) (v0 : Value), AggR w (cengine m) v0 → Calls Try.prog 27 #[v0] w fun e w' => e = .returned (.bool r0) ∧ w.grownBy w' none) :
    Calls Try.prog 5 #[v0] w fun e w' => e = .returned (.bool true) ∧ w.grownBy w' none := by
  have HS := Lib.hid hs
  have HI := Lib.hid hi
  obtain ⟨p0_1, p0_2, p0_3, p0_4, p0_5, rfl, _, _, _, _, _⟩ := cengine_xopen (m := m) ha0
  have kc0 := EM.cnt_bd hz0
  have HA0 := Lib.hid ha0
  have HZ0 := Lib.hid hz0
  clear hs hi ha0 hz0
  have B0 := Lib.hid (Blk.new w 64 #[.int .i64 m.k.p, p0_1, .int .i64 m.c.p, p0_2, p0_3, p0_4, p0_5, .int .i64 m.rd, .bool m.bad])
  have G := Lib.hid (gbA (gbR w none) (.cells #[.int .i64 m.k.p, p0_1, .int .i64 m.c.p, p0_2, p0_3, p0_4, p0_5, .int .i64 m.rd, .bool m.bad] 64))
  go_enter Try.func5, Try.ntmps5
  have z0 : w.heap.size ≤ w.heap.size := Nat.le_refl _
  have k1 : ¬ ((1048576 - m.sz : Nat) : Int) < 0 := by omega
  have k_B0_0 := B0.out.cell 0
  have k_B0_1 := B0.out.cell 1
  have k_B0_2 := B0.out.cell 2
  have k_B0_3 := B0.out.cell 3
  have k_B0_4 := B0.out.cell 4
  have k_B0_5 := B0.out.cell 5
  have k_B0_6 := B0.out.cell 6
  have k_B0_7 := B0.out.cell 7
  have k_B0_8 := B0.out.cell 8
  simp at k_B0_0 k_B0_1 k_B0_2 k_B0_3 k_B0_4 k_B0_5 k_B0_6 k_B0_7 k_B0_8
  go_wp2_with fail
  clear k_B0_0 k_B0_1 k_B0_2 k_B0_3 k_B0_4 k_B0_5 k_B0_6 k_B0_7 k_B0_8
  refine (szEngine_k m _ 1048576 _ (AggR.grow HA0.out G.out) (by omega)).mono ?_
  rintro e y ⟨rfl, g⟩
  rw [szO_yes HZ0.out]
  have E := Lib.hid (Blk.grow B0.out g)
  clear B0
  have B0 := E
  clear E
  have z1 := World.grownBy.size g
  try simp at z1
  have E := Lib.hid (gbT G.out g)
  clear G
  have G := E
  clear E
  clear g k1
  have k_B0_0 := B0.out.cell 0
  have k_B0_1 := B0.out.cell 1
  have k_B0_2 := B0.out.cell 2
  have k_B0_3 := B0.out.cell 3
  have k_B0_4 := B0.out.cell 4
  have k_B0_5 := B0.out.cell 5
  have k_B0_6 := B0.out.cell 6
  have k_B0_7 := B0.out.cell 7
  have k_B0_8 := B0.out.cell 8
  simp at k_B0_0 k_B0_1 k_B0_2 k_B0_3 k_B0_4 k_B0_5 k_B0_6 k_B0_7 k_B0_8
  go_wp2_with fail
  clear k_B0_0 k_B0_1 k_B0_2 k_B0_3 k_B0_4 k_B0_5 k_B0_6 k_B0_7 k_B0_8
  refine (toEngine_k m _ _ (AggR.grow HA0.out G.out) HZ0.out).mono ?_
  rintro e y ⟨uu, Fw0, rfl, oo, ll, g⟩
  obtain ⟨aw0_1, nw0_1, sw0_1, aw0_2, nw0_2, sw0_2, aw0_3, nw0_3, sw0_3, aw0_4, nw0_4, sw0_4, aw0_5, nw0_5, sw0_5, rfl⟩ := cengine_oform oo
  try simp at ll
  have Ow0 := Lib.hid oo
  have Lw0 := Lib.hid ll
  have Uw0 := Lib.hid (AggO.lt oo)
  have E := Lib.hid (Blk.grow B0.out g)
  clear B0
  have B0 := E
  clear E
  have z2 := World.grownBy.size g
  try simp at z2
  have E := Lib.hid (gbT G.out g)
  clear G
  have G := E
  clear E
  clear g oo ll
  have k_B0_0 := B0.out.cell 0
  have k_B0_1 := B0.out.cell 1
  have k_B0_2 := B0.out.cell 2
  have k_B0_3 := B0.out.cell 3
  have k_B0_4 := B0.out.cell 4
  have k_B0_5 := B0.out.cell 5
  have k_B0_6 := B0.out.cell 6
  have k_B0_7 := B0.out.cell 7
  have k_B0_8 := B0.out.cell 8
  simp at k_B0_0 k_B0_1 k_B0_2 k_B0_3 k_B0_4 k_B0_5 k_B0_6 k_B0_7 k_B0_8
  go_wp2_with fail
  clear k_B0_0 k_B0_1 k_B0_2 k_B0_3 k_B0_4 k_B0_5 k_B0_6 k_B0_7 k_B0_8
  refine (HS.out _ _ Ow0.out.rd).mono ?_
  rintro e y ⟨rfl, g⟩
  have E := Lib.hid (Blk.grow B0.out g)
  clear B0
  have B0 := E
  clear E
  have E := Lib.hid (AggO.grow Ow0.out g)
  clear Ow0
  have Ow0 := E
  clear E
  have z3 := World.grownBy.size g
  try simp at z3
  have E := Lib.hid (gbT G.out g)
  clear G
  have G := E
  clear E
  clear g
  clear Ow0 Lw0 Uw0
  have k_B0_0 := B0.out.cell 0
  have k_B0_1 := B0.out.cell 1
  have k_B0_2 := B0.out.cell 2
  have k_B0_3 := B0.out.cell 3
  have k_B0_4 := B0.out.cell 4
  have k_B0_5 := B0.out.cell 5
  have k_B0_6 := B0.out.cell 6
  have k_B0_7 := B0.out.cell 7
  have k_B0_8 := B0.out.cell 8
  simp at k_B0_0 k_B0_1 k_B0_2 k_B0_3 k_B0_4 k_B0_5 k_B0_6 k_B0_7 k_B0_8
  go_wp2_with fail
  clear k_B0_0 k_B0_1 k_B0_2 k_B0_3 k_B0_4 k_B0_5 k_B0_6 k_B0_7 k_B0_8
  refine (toEngine_k m _ _ (AggR.grow HA0.out G.out) HZ0.out).mono ?_
  rintro e y ⟨uu, Fx0, rfl, oo, ll, g⟩
  obtain ⟨ax0_1, nx0_1, sx0_1, ax0_2, nx0_2, sx0_2, ax0_3, nx0_3, sx0_3, ax0_4, nx0_4, sx0_4, ax0_5, nx0_5, sx0_5, rfl⟩ := cengine_oform oo
  try simp at ll
  have Ox0 := Lib.hid oo
  have Lx0 := Lib.hid ll
  have Ux0 := Lib.hid (AggO.lt oo)
  have E := Lib.hid (Blk.grow B0.out g)
  clear B0
  have B0 := E
  clear E
  have z4 := World.grownBy.size g
  try simp at z4
  have E := Lib.hid (gbT G.out g)
  clear G
  have G := E
  clear E
  clear g oo ll
  have X := Lib.hid (Blk.new y 36 #[.int .i64 m.k.p, .slice ax0_1 nx0_1 sx0_1, .int .i64 m.c.p, .slice ax0_2 nx0_2 sx0_2, .slice ax0_3 nx0_3 sx0_3, .slice ax0_4 nx0_4 sx0_4, .slice ax0_5 nx0_5 sx0_5, .int .i64 m.rd, .bool m.bad])
  have ga : y.grownBy (y.alloc (.cells #[.int .i64 m.k.p, .slice ax0_1 nx0_1 sx0_1, .int .i64 m.c.p, .slice ax0_2 nx0_2 sx0_2, .slice ax0_3 nx0_3 sx0_3, .slice ax0_4 nx0_4 sx0_4, .slice ax0_5 nx0_5 sx0_5, .int .i64 m.rd, .bool m.bad] 36)) none := gbA (gbR y none) _
  have E := Lib.hid (Blk.grow B0.out ga)
  clear B0
  have B0 := E
  clear E
  have E := Lib.hid (AggO.grow Ox0.out ga)
  clear Ox0
  have Ox0 := E
  clear E
  have z5 := World.grownBy.size ga
  try simp at z5
  have E := Lib.hid (gbT G.out ga)
  clear G
  have G := E
  clear E
  clear ga
  have X0 := X
  clear X
  go_wp2_with fail
  refine (HI.out _ _ Ox0.out.rd).mono ?_
  rintro e y ⟨rfl, g⟩
  have E := Lib.hid (Blk.grow B0.out g)
  clear B0
  have B0 := E
  clear E
  have E := Lib.hid (Blk.grow X0.out g)
  clear X0
  have X0 := E
  clear E
  have E := Lib.hid (AggO.grow Ox0.out g)
  clear Ox0
  have Ox0 := E
  clear E
  have z6 := World.grownBy.size g
  try simp at z6
  have E := Lib.hid (gbT G.out g)
  clear G
  have G := E
  clear E
  clear g
  have k_B0_0 := B0.out.cell 0
  have k_B0_1 := B0.out.cell 1
  have k_B0_2 := B0.out.cell 2
  have k_B0_3 := B0.out.cell 3
  have k_B0_4 := B0.out.cell 4
  have k_B0_5 := B0.out.cell 5
  have k_B0_6 := B0.out.cell 6
  have k_B0_7 := B0.out.cell 7
  have k_B0_8 := B0.out.cell 8
  have k_X0_0 := X0.out.cell 0
  have k_X0_1 := X0.out.cell 1
  have k_X0_2 := X0.out.cell 2
  have k_X0_3 := X0.out.cell 3
  have k_X0_4 := X0.out.cell 4
  have k_X0_5 := X0.out.cell 5
  have k_X0_6 := X0.out.cell 6
  have k_X0_7 := X0.out.cell 7
  have k_X0_8 := X0.out.cell 8
  simp at k_B0_0 k_B0_1 k_B0_2 k_B0_3 k_B0_4 k_B0_5 k_B0_6 k_B0_7 k_B0_8 k_X0_0 k_X0_1 k_X0_2 k_X0_3 k_X0_4 k_X0_5 k_X0_6 k_X0_7 k_X0_8
  go_wp2_with fail
  clear k_B0_0 k_B0_1 k_B0_2 k_B0_3 k_B0_4 k_B0_5 k_B0_6 k_B0_7 k_B0_8 k_X0_0 k_X0_1 k_X0_2 k_X0_3 k_X0_4 k_X0_5 k_X0_6 k_X0_7 k_X0_8
  refine region_grow [isV (.agg #[.int .i64 m.k.p, .slice ax0_1 nx0_1 sx0_1, .int .i64 m.c.p, .slice ax0_2 nx0_2 sx0_2, .slice ax0_3 nx0_3 sx0_3, .slice ax0_4 nx0_4 sx0_4, .slice ax0_5 nx0_5 sx0_5, .int .i64 m.rd, .bool m.bad]), isV (.agg #[.int .i64 m.k.p, p0_1, .int .i64 m.c.p, p0_2, p0_3, p0_4, p0_5, .int .i64 m.rd, .bool m.bad]), fun v w => AggR w (cengine m) v, isV (.bool true), isV (.bool false)] (by kernel_rfl) (by kernel_rfl) (by kernel_rfl) (by simp only [stables, List.mem_cons, List.not_mem_nil, or_false, forall_eq_or_imp, forall_eq]; exact ⟨isV_st _, isV_st _, fun _ _ _ h hg => AggR.grow h hg, isV_st _, isV_st _⟩) ?_ ?_
  · simp only [hops, and_true]
    refine ⟨?_, ?_, ?_, ?_, ?_⟩
    all_goals
      intro f w1 hG hd
      have k_X0_0 := (X0.out.grow (gdT' hG)).cell 0
      have k_X0_1 := (X0.out.grow (gdT' hG)).cell 1
      have k_X0_2 := (X0.out.grow (gdT' hG)).cell 2
      have k_X0_3 := (X0.out.grow (gdT' hG)).cell 3
      have k_X0_4 := (X0.out.grow (gdT' hG)).cell 4
      have k_X0_5 := (X0.out.grow (gdT' hG)).cell 5
      have k_X0_6 := (X0.out.grow (gdT' hG)).cell 6
      have k_X0_7 := (X0.out.grow (gdT' hG)).cell 7
      have k_X0_8 := (X0.out.grow (gdT' hG)).cell 8
      have k_B0_0 := (B0.out.grow (gdT' hG)).cell 0
      have k_B0_1 := (B0.out.grow (gdT' hG)).cell 1
      have k_B0_2 := (B0.out.grow (gdT' hG)).cell 2
      have k_B0_3 := (B0.out.grow (gdT' hG)).cell 3
      have k_B0_4 := (B0.out.grow (gdT' hG)).cell 4
      have k_B0_5 := (B0.out.grow (gdT' hG)).cell 5
      have k_B0_6 := (B0.out.grow (gdT' hG)).cell 6
      have k_B0_7 := (B0.out.grow (gdT' hG)).cell 7
      have k_B0_8 := (B0.out.grow (gdT' hG)).cell 8
      simp at k_X0_0 k_X0_1 k_X0_2 k_X0_3 k_X0_4 k_X0_5 k_X0_6 k_X0_7 k_X0_8 k_B0_0 k_B0_1 k_B0_2 k_B0_3 k_B0_4 k_B0_5 k_B0_6 k_B0_7 k_B0_8
      have GG := Lib.hid (gbT G.out (gdT' hG))
      have OO := Lib.hid (AggR.grow (Ox0.out.grow (gdT' hG)).rd (gbR _ _))
      simp [deps, tAt, isV] at hd
      first | simp [puts, dsts, Act.put, hd] | simp [puts, dsts, Act.put]
      go_wp2_with (first | (go_at_call 26; refine (toEngine_k m _ _ (AggR.grow HA0.out GG.out) HZ0.out).mono ?_; rintro e w2 ⟨uu, FF, rfl, oo, ll, hw⟩) | (go_at_call 28; refine (eqEngine_k m _ _ _ OO.out hd.2 HZ0.out).mono ?_; rintro e w2 ⟨rfl, hw⟩))
    all_goals exact ⟨_, rfl, by first | with_reducible exact gbR _ _ | exact hw, by first | (simp [tAt, isV]; done) | exact oo.rd⟩
  · intro f y hG hd
    have g := gdT' hG
    simp [knows, tAt, isV] at hd
    obtain ⟨h1, h2, h3, h4, h5⟩ := hd
    have E := Lib.hid (Blk.grow B0.out g)
    clear B0
    have B0 := E
    clear E
    have E := Lib.hid (Blk.grow X0.out g)
    clear X0
    have X0 := E
    clear E
    have E := Lib.hid (AggO.grow Ox0.out g)
    clear Ox0
    have Ox0 := E
    clear E
    have z7 := World.grownBy.size g
    try simp at z7
    have E := Lib.hid (gbT G.out g)
    clear G
    have G := E
    clear E
    clear g hG
    simp only [puts, dsts, Act.put, h1, h2, h4, h5, List.filterMap_cons, List.filterMap_nil, List.setIfInBounds_toArray, List.set_cons_zero, List.set_cons_succ]
    clear h1 h2 h3 h4 h5
    have k_B0_0 := B0.out.cell 0
    have k_B0_1 := B0.out.cell 1
    have k_B0_2 := B0.out.cell 2
    have k_B0_3 := B0.out.cell 3
    have k_B0_4 := B0.out.cell 4
    have k_B0_5 := B0.out.cell 5
    have k_B0_6 := B0.out.cell 6
    have k_B0_7 := B0.out.cell 7
    have k_B0_8 := B0.out.cell 8
    have k_X0_0 := X0.out.cell 0
    have k_X0_1 := X0.out.cell 1
    have k_X0_2 := X0.out.cell 2
    have k_X0_3 := X0.out.cell 3
    have k_X0_4 := X0.out.cell 4
    have k_X0_5 := X0.out.cell 5
    have k_X0_6 := X0.out.cell 6
    have k_X0_7 := X0.out.cell 7
    have k_X0_8 := X0.out.cell 8
    simp at k_B0_0 k_B0_1 k_B0_2 k_B0_3 k_B0_4 k_B0_5 k_B0_6 k_B0_7 k_B0_8 k_X0_0 k_X0_1 k_X0_2 k_X0_3 k_X0_4 k_X0_5 k_X0_6 k_X0_7 k_X0_8
    go_wp2_with fail
    clear k_B0_0 k_B0_1 k_B0_2 k_B0_3 k_B0_4 k_B0_5 k_B0_6 k_B0_7 k_B0_8 k_X0_0 k_X0_1 k_X0_2 k_X0_3 k_X0_4 k_X0_5 k_X0_6 k_X0_7 k_X0_8
    go_ret
    exact ⟨rfl, G.out⟩
theorem FnExactEngineOk.walk (w : World) (m : EM) (v : Value) (h : AggR w (cengine m) v) (wf : m.wf)  :
    Calls Try.prog 5 #[v] w fun e w' => e = .returned (.bool true) ∧ w.grownBy w' none := by
  by_cases hz : m.sz ≤ 1048576
  · exact FnExactEngineOk.core m (engOkB m) w v h hz (fun w v h => specEngineOk_c m v w h (EM.ewf wf hz)) (fun w v h => implEngineOk_c m v w h (EM.ewf wf hz))
  · have HZ := Lib.hid (szO_no (Nat.lt_of_not_le hz))
    have HA := Lib.hid h
    obtain ⟨A, B, C, D, E, a, b, c, d, e, rfl, _⟩ := cengine_open h
    clear h hz
    go_enter Try.func5, Try.ntmps5
    go_wp2_with fail
    refine (szEngine_k m _ 1048576 _ (AggR.grow HA.out (gbA (gbR w none) _)) (by omega)).mono ?_
    rintro e y ⟨rfl, g⟩
    rw [HZ.out]
    have G := Lib.hid (gbT (gbA (gbR w none) _) g)
    clear g
    go_wp2_with fail
    go_ret
    exact ⟨rfl, G.out⟩
end Go.Proofs.Ythaadgdeadbhkaa
