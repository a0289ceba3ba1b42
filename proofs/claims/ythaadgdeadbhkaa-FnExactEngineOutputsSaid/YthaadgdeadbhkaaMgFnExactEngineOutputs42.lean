/-
  Exact laws (cores printed by wip/gen_exact.py).
-/
import Derived.Test.YthaadgdeadbhkaaMgFnExactEngineOutputs35
import Derived.Test.YthaadgdeadbhkaaMgFnExactEngineOutputs41
import Derived.Test.YthaadgdeadbhkaaMgFnExactEngineOutputs40
namespace Go.Proofs.Ythaadgdeadbhkaa
open Go.RowKit
set_option linter.unusedVariables false
set_option linter.unusedSimpArgs false
set_option maxRecDepth 100000 in
set_option maxHeartbeats 4000000 in
theorem FnExactEngineOutputs.core (m : EM) (r0 : List Int) (r1 : Bool) (w : World) (v0 : Value) (ha0 : AggR w (cengine m) v0) (hz0 : m.sz ≤ 1048576) (hs0 : r0.length ≤ 1048576)
    (hs : ∀ (w : World) (v0 : Value), AggR w (cengine m) v0 → Calls Try.prog 29 #[v0] w fun e w' => ∃ Vr0 Fr0, e = .returned (.tuple #[Vr0, .bool r1]) ∧ (cints r0).own w' Fr0 Vr0 ∧ (∀ g ∈ Fr0, w.heap.size ≤ g) ∧ w.grownBy w' none)
    (hi : ∀ (w : World) (v0 : Value), AggR w (cengine m) v0 → Calls Try.prog 17 #[v0] w fun e w' => ∃ Vr0 Fr0, e = .returned (.tuple #[Vr0, .bool r1]) ∧ (cints r0).own w' Fr0 Vr0 ∧ (∀ g ∈ Fr0, w.heap.size ≤ g) ∧ w.grownBy w' none) :
    Calls Try.prog 6 #[v0] w fun e w' => e = .returned (.bool true) ∧ w.grownBy w' none := by
  have HS := Lib.hid hs
  have HI := Lib.hid hi
  obtain ⟨p0_1, p0_2, p0_3, p0_4, p0_5, rfl, _, _, _, _, _⟩ := cengine_xopen (m := m) ha0
  have kc0 := EM.cnt_bd hz0
  have HA0 := Lib.hid ha0
  have HZ0 := Lib.hid hz0
  have HL0 := Lib.hid hs0
  clear hs hi ha0 hz0
  have B0 := Lib.hid (Blk.new w 64 #[.int .i64 m.k.p, p0_1, .int .i64 m.c.p, p0_2, p0_3, p0_4, p0_5, .int .i64 m.rd, .bool m.bad])
  have G := Lib.hid (gbA (gbR w none) (.cells #[.int .i64 m.k.p, p0_1, .int .i64 m.c.p, p0_2, p0_3, p0_4, p0_5, .int .i64 m.rd, .bool m.bad] 64))
  go_enter Try.func6, Try.ntmps6
  have z0 : w.heap.size ≤ w.heap.size := Nat.le_refl _
  have k1 : ¬ ((1048576 - m.sz : Nat) : Int) < 0 := by omega
  have k_B0_0 := B0.out.cell 0
  have k_B0_1 := B0.out.cell 1
  have k_B0_2 := B0.out.cell 2
  have k_B0_3 := B0.out.cell 3
  have k_B0_4 := B0.out.cell 4
  have k_B0_5 := B0.out.cell 5
  have k_B0_6 := B0.out.cell 6
  have k_B0_7 := B0.out.cell 7
  have k_B0_8 := B0.out.cell 8
  simp at k_B0_0 k_B0_1 k_B0_2 k_B0_3 k_B0_4 k_B0_5 k_B0_6 k_B0_7 k_B0_8
  go_wp2_with fail
  clear k_B0_0 k_B0_1 k_B0_2 k_B0_3 k_B0_4 k_B0_5 k_B0_6 k_B0_7 k_B0_8
  refine (szEngine_k m _ 1048576 _ (AggR.grow HA0.out G.out) (by omega)).mono ?_
  rintro e y ⟨rfl, g⟩
  rw [szO_yes HZ0.out]
  have E := Lib.hid (Blk.grow B0.out g)
  clear B0
  have B0 := E
  clear E
  have z1 := World.grownBy.size g
  try simp at z1
  have E := Lib.hid (gbT G.out g)
  clear G
  have G := E
  clear E
  clear g k1
  have k_B0_0 := B0.out.cell 0
  have k_B0_1 := B0.out.cell 1
  have k_B0_2 := B0.out.cell 2
  have k_B0_3 := B0.out.cell 3
  have k_B0_4 := B0.out.cell 4
  have k_B0_5 := B0.out.cell 5
  have k_B0_6 := B0.out.cell 6
  have k_B0_7 := B0.out.cell 7
  have k_B0_8 := B0.out.cell 8
  simp at k_B0_0 k_B0_1 k_B0_2 k_B0_3 k_B0_4 k_B0_5 k_B0_6 k_B0_7 k_B0_8
  go_wp2_with fail
  clear k_B0_0 k_B0_1 k_B0_2 k_B0_3 k_B0_4 k_B0_5 k_B0_6 k_B0_7 k_B0_8
  refine (toEngine_k m _ _ (AggR.grow HA0.out G.out) HZ0.out).mono ?_
  rintro e y ⟨uu, Fw0, rfl, oo, ll, g⟩
  obtain ⟨aw0_1, nw0_1, sw0_1, aw0_2, nw0_2, sw0_2, aw0_3, nw0_3, sw0_3, aw0_4, nw0_4, sw0_4, aw0_5, nw0_5, sw0_5, rfl⟩ := cengine_oform oo
  try simp at ll
  have Ow0 := Lib.hid oo
  have Lw0 := Lib.hid ll
  have Uw0 := Lib.hid (AggO.lt oo)
  have E := Lib.hid (Blk.grow B0.out g)
  clear B0
  have B0 := E
  clear E
  have z2 := World.grownBy.size g
  try simp at z2
  have E := Lib.hid (gbT G.out g)
  clear G
  have G := E
  clear E
  clear g oo ll
  have k_B0_0 := B0.out.cell 0
  have k_B0_1 := B0.out.cell 1
  have k_B0_2 := B0.out.cell 2
  have k_B0_3 := B0.out.cell 3
  have k_B0_4 := B0.out.cell 4
  have k_B0_5 := B0.out.cell 5
  have k_B0_6 := B0.out.cell 6
  have k_B0_7 := B0.out.cell 7
  have k_B0_8 := B0.out.cell 8
  simp at k_B0_0 k_B0_1 k_B0_2 k_B0_3 k_B0_4 k_B0_5 k_B0_6 k_B0_7 k_B0_8
  go_wp2_with fail
  clear k_B0_0 k_B0_1 k_B0_2 k_B0_3 k_B0_4 k_B0_5 k_B0_6 k_B0_7 k_B0_8
  refine (HS.out _ _ Ow0.out.rd).mono ?_
  rintro e y ⟨Vwr0, Fwr0, rfl, owr0, lwr0, g⟩
  obtain ⟨awr0, nwr0, swr0, rfl⟩ := row_form owr0
  try simp at lwr0
  have Owr0 := Lib.hid owr0
  have Lwr0 := Lib.hid lwr0
  have Uwr0 := Lib.hid (CS.lt _ owr0)
  have E := Lib.hid (Blk.grow B0.out g)
  clear B0
  have B0 := E
  clear E
  have E := Lib.hid (AggO.grow Ow0.out g)
  clear Ow0
  have Ow0 := E
  clear E
  have z3 := World.grownBy.size g
  try simp at z3
  have E := Lib.hid (gbT G.out g)
  clear G
  have G := E
  clear E
  clear g owr0 lwr0
  clear Ow0 Lw0 Uw0
  have k_B0_0 := B0.out.cell 0
  have k_B0_1 := B0.out.cell 1
  have k_B0_2 := B0.out.cell 2
  have k_B0_3 := B0.out.cell 3
  have k_B0_4 := B0.out.cell 4
  have k_B0_5 := B0.out.cell 5
  have k_B0_6 := B0.out.cell 6
  have k_B0_7 := B0.out.cell 7
  have k_B0_8 := B0.out.cell 8
  simp at k_B0_0 k_B0_1 k_B0_2 k_B0_3 k_B0_4 k_B0_5 k_B0_6 k_B0_7 k_B0_8
  go_wp2_with fail
  clear k_B0_0 k_B0_1 k_B0_2 k_B0_3 k_B0_4 k_B0_5 k_B0_6 k_B0_7 k_B0_8
  refine (toEngine_k m _ _ (AggR.grow HA0.out G.out) HZ0.out).mono ?_
  rintro e y ⟨uu, Fx0, rfl, oo, ll, g⟩
  obtain ⟨ax0_1, nx0_1, sx0_1, ax0_2, nx0_2, sx0_2, ax0_3, nx0_3, sx0_3, ax0_4, nx0_4, sx0_4, ax0_5, nx0_5, sx0_5, rfl⟩ := cengine_oform oo
  try simp at ll
  have Ox0 := Lib.hid oo
  have Lx0 := Lib.hid ll
  have Ux0 := Lib.hid (AggO.lt oo)
  have E := Lib.hid (Blk.grow B0.out g)
  clear B0
  have B0 := E
  clear E
  have E := Lib.hid (own_growK _ Owr0.out g)
  clear Owr0
  have Owr0 := E
  clear E
  have z4 := World.grownBy.size g
  try simp at z4
  have E := Lib.hid (gbT G.out g)
  clear G
  have G := E
  clear E
  clear g oo ll
  have X := Lib.hid (Blk.new y 36 #[.int .i64 m.k.p, .slice ax0_1 nx0_1 sx0_1, .int .i64 m.c.p, .slice ax0_2 nx0_2 sx0_2, .slice ax0_3 nx0_3 sx0_3, .slice ax0_4 nx0_4 sx0_4, .slice ax0_5 nx0_5 sx0_5, .int .i64 m.rd, .bool m.bad])
  have ga : y.grownBy (y.alloc (.cells #[.int .i64 m.k.p, .slice ax0_1 nx0_1 sx0_1, .int .i64 m.c.p, .slice ax0_2 nx0_2 sx0_2, .slice ax0_3 nx0_3 sx0_3, .slice ax0_4 nx0_4 sx0_4, .slice ax0_5 nx0_5 sx0_5, .int .i64 m.rd, .bool m.bad] 36)) none := gbA (gbR y none) _
  have E := Lib.hid (Blk.grow B0.out ga)
  clear B0
  have B0 := E
  clear E
  have E := Lib.hid (own_growK _ Owr0.out ga)
  clear Owr0
  have Owr0 := E
  clear E
  have E := Lib.hid (AggO.grow Ox0.out ga)
  clear Ox0
  have Ox0 := E
  clear E
  have z5 := World.grownBy.size ga
  try simp at z5
  have E := Lib.hid (gbT G.out ga)
  clear G
  have G := E
  clear E
  clear ga
  have X0 := X
  clear X
  go_wp2_with fail
  refine (HI.out _ _ Ox0.out.rd).mono ?_
  rintro e y ⟨Vgr0, Fgr0, rfl, ogr0, lgr0, g⟩
  obtain ⟨agr0, ngr0, sgr0, rfl⟩ := row_form ogr0
  try simp at lgr0
  have Ogr0 := Lib.hid ogr0
  have Lgr0 := Lib.hid lgr0
  have Ugr0 := Lib.hid (CS.lt _ ogr0)
  have E := Lib.hid (Blk.grow B0.out g)
  clear B0
  have B0 := E
  clear E
  have E := Lib.hid (Blk.grow X0.out g)
  clear X0
  have X0 := E
  clear E
  have E := Lib.hid (own_growK _ Owr0.out g)
  clear Owr0
  have Owr0 := E
  clear E
  have E := Lib.hid (AggO.grow Ox0.out g)
  clear Ox0
  have Ox0 := E
  clear E
  have z6 := World.grownBy.size g
  try simp at z6
  have E := Lib.hid (gbT G.out g)
  clear G
  have G := E
  clear E
  clear g ogr0 lgr0
  have k_B0_0 := B0.out.cell 0
  have k_B0_1 := B0.out.cell 1
  have k_B0_2 := B0.out.cell 2
  have k_B0_3 := B0.out.cell 3
  have k_B0_4 := B0.out.cell 4
  have k_B0_5 := B0.out.cell 5
  have k_B0_6 := B0.out.cell 6
  have k_B0_7 := B0.out.cell 7
  have k_B0_8 := B0.out.cell 8
  have k_X0_0 := X0.out.cell 0
  have k_X0_1 := X0.out.cell 1
  have k_X0_2 := X0.out.cell 2
  have k_X0_3 := X0.out.cell 3
  have k_X0_4 := X0.out.cell 4
  have k_X0_5 := X0.out.cell 5
  have k_X0_6 := X0.out.cell 6
  have k_X0_7 := X0.out.cell 7
  have k_X0_8 := X0.out.cell 8
  simp at k_B0_0 k_B0_1 k_B0_2 k_B0_3 k_B0_4 k_B0_5 k_B0_6 k_B0_7 k_B0_8 k_X0_0 k_X0_1 k_X0_2 k_X0_3 k_X0_4 k_X0_5 k_X0_6 k_X0_7 k_X0_8
  go_wp2_with fail
  clear k_B0_0 k_B0_1 k_B0_2 k_B0_3 k_B0_4 k_B0_5 k_B0_6 k_B0_7 k_B0_8 k_X0_0 k_X0_1 k_X0_2 k_X0_3 k_X0_4 k_X0_5 k_X0_6 k_X0_7 k_X0_8
  refine (eqIntS_k r0 _ _ _ (CS.toRd _ Ogr0.out) (CS.toRd _ Owr0.out) HL0.out).mono ?_
  rintro e y ⟨rfl, g⟩
  have E := Lib.hid (Blk.grow B0.out g)
  clear B0
  have B0 := E
  clear E
  have E := Lib.hid (Blk.grow X0.out g)
  clear X0
  have X0 := E
  clear E
  have E := Lib.hid (own_growK _ Owr0.out g)
  clear Owr0
  have Owr0 := E
  clear E
  have E := Lib.hid (AggO.grow Ox0.out g)
  clear Ox0
  have Ox0 := E
  clear E
  have E := Lib.hid (own_growK _ Ogr0.out g)
  clear Ogr0
  have Ogr0 := E
  clear E
  have z7 := World.grownBy.size g
  try simp at z7
  have E := Lib.hid (gbT G.out g)
  clear G
  have G := E
  clear E
  clear g
  have k_B0_0 := B0.out.cell 0
  have k_B0_1 := B0.out.cell 1
  have k_B0_2 := B0.out.cell 2
  have k_B0_3 := B0.out.cell 3
  have k_B0_4 := B0.out.cell 4
  have k_B0_5 := B0.out.cell 5
  have k_B0_6 := B0.out.cell 6
  have k_B0_7 := B0.out.cell 7
  have k_B0_8 := B0.out.cell 8
  have k_X0_0 := X0.out.cell 0
  have k_X0_1 := X0.out.cell 1
  have k_X0_2 := X0.out.cell 2
  have k_X0_3 := X0.out.cell 3
  have k_X0_4 := X0.out.cell 4
  have k_X0_5 := X0.out.cell 5
  have k_X0_6 := X0.out.cell 6
  have k_X0_7 := X0.out.cell 7
  have k_X0_8 := X0.out.cell 8
  simp at k_B0_0 k_B0_1 k_B0_2 k_B0_3 k_B0_4 k_B0_5 k_B0_6 k_B0_7 k_B0_8 k_X0_0 k_X0_1 k_X0_2 k_X0_3 k_X0_4 k_X0_5 k_X0_6 k_X0_7 k_X0_8
  go_wp2_with fail
  clear k_B0_0 k_B0_1 k_B0_2 k_B0_3 k_B0_4 k_B0_5 k_B0_6 k_B0_7 k_B0_8 k_X0_0 k_X0_1 k_X0_2 k_X0_3 k_X0_4 k_X0_5 k_X0_6 k_X0_7 k_X0_8
  refine region_grow [isV (.agg #[.int .i64 m.k.p, .slice ax0_1 nx0_1 sx0_1, .int .i64 m.c.p, .slice ax0_2 nx0_2 sx0_2, .slice ax0_3 nx0_3 sx0_3, .slice ax0_4 nx0_4 sx0_4, .slice ax0_5 nx0_5 sx0_5, .int .i64 m.rd, .bool m.bad]), isV (.agg #[.int .i64 m.k.p, p0_1, .int .i64 m.c.p, p0_2, p0_3, p0_4, p0_5, .int .i64 m.rd, .bool m.bad]), fun v w => AggR w (cengine m) v, isV (.bool true), isV (.bool false)] (by kernel_rfl) (by kernel_rfl) (by kernel_rfl) (by simp only [stables, List.mem_cons, List.not_mem_nil, or_false, forall_eq_or_imp, forall_eq]; exact ⟨isV_st _, isV_st _, fun _ _ _ h hg => AggR.grow h hg, isV_st _, isV_st _⟩) ?_ ?_
  · simp only [hops, and_true]
    refine ⟨?_, ?_, ?_, ?_, ?_⟩
    all_goals
      intro f w1 hG hd
      have k_X0_0 := (X0.out.grow (gdT' hG)).cell 0
      have k_X0_1 := (X0.out.grow (gdT' hG)).cell 1
      have k_X0_2 := (X0.out.grow (gdT' hG)).cell 2
      have k_X0_3 := (X0.out.grow (gdT' hG)).cell 3
      have k_X0_4 := (X0.out.grow (gdT' hG)).cell 4
      have k_X0_5 := (X0.out.grow (gdT' hG)).cell 5
      have k_X0_6 := (X0.out.grow (gdT' hG)).cell 6
      have k_X0_7 := (X0.out.grow (gdT' hG)).cell 7
      have k_X0_8 := (X0.out.grow (gdT' hG)).cell 8
      have k_B0_0 := (B0.out.grow (gdT' hG)).cell 0
      have k_B0_1 := (B0.out.grow (gdT' hG)).cell 1
      have k_B0_2 := (B0.out.grow (gdT' hG)).cell 2
      have k_B0_3 := (B0.out.grow (gdT' hG)).cell 3
      have k_B0_4 := (B0.out.grow (gdT' hG)).cell 4
      have k_B0_5 := (B0.out.grow (gdT' hG)).cell 5
      have k_B0_6 := (B0.out.grow (gdT' hG)).cell 6
      have k_B0_7 := (B0.out.grow (gdT' hG)).cell 7
      have k_B0_8 := (B0.out.grow (gdT' hG)).cell 8
      simp at k_X0_0 k_X0_1 k_X0_2 k_X0_3 k_X0_4 k_X0_5 k_X0_6 k_X0_7 k_X0_8 k_B0_0 k_B0_1 k_B0_2 k_B0_3 k_B0_4 k_B0_5 k_B0_6 k_B0_7 k_B0_8
      have GG := Lib.hid (gbT G.out (gdT' hG))
      have OO := Lib.hid (AggR.grow (Ox0.out.grow (gdT' hG)).rd (gbR _ _))
      simp [deps, tAt, isV] at hd
      first | simp [puts, dsts, Act.put, hd] | simp [puts, dsts, Act.put]
      go_wp2_with (first | (go_at_call 26; refine (toEngine_k m _ _ (AggR.grow HA0.out GG.out) HZ0.out).mono ?_; rintro e w2 ⟨uu, FF, rfl, oo, ll, hw⟩) | (go_at_call 28; refine (eqEngine_k m _ _ _ OO.out hd.2 HZ0.out).mono ?_; rintro e w2 ⟨rfl, hw⟩))
    all_goals exact ⟨_, rfl, by first | with_reducible exact gbR _ _ | exact hw, by first | (simp [tAt, isV]; done) | exact oo.rd⟩
  · intro f y hG hd
    have g := gdT' hG
    simp [knows, tAt, isV] at hd
    obtain ⟨h1, h2, h3, h4, h5⟩ := hd
    have E := Lib.hid (Blk.grow B0.out g)
    clear B0
    have B0 := E
    clear E
    have E := Lib.hid (Blk.grow X0.out g)
    clear X0
    have X0 := E
    clear E
    have E := Lib.hid (own_growK _ Owr0.out g)
    clear Owr0
    have Owr0 := E
    clear E
    have E := Lib.hid (AggO.grow Ox0.out g)
    clear Ox0
    have Ox0 := E
    clear E
    have E := Lib.hid (own_growK _ Ogr0.out g)
    clear Ogr0
    have Ogr0 := E
    clear E
    have z8 := World.grownBy.size g
    try simp at z8
    have E := Lib.hid (gbT G.out g)
    clear G
    have G := E
    clear E
    clear g hG
    simp only [puts, dsts, Act.put, h1, h2, h4, h5, List.filterMap_cons, List.filterMap_nil, List.setIfInBounds_toArray, List.set_cons_zero, List.set_cons_succ]
    clear h1 h2 h3 h4 h5
    have k_B0_0 := B0.out.cell 0
    have k_B0_1 := B0.out.cell 1
    have k_B0_2 := B0.out.cell 2
    have k_B0_3 := B0.out.cell 3
    have k_B0_4 := B0.out.cell 4
    have k_B0_5 := B0.out.cell 5
    have k_B0_6 := B0.out.cell 6
    have k_B0_7 := B0.out.cell 7
    have k_B0_8 := B0.out.cell 8
    have k_X0_0 := X0.out.cell 0
    have k_X0_1 := X0.out.cell 1
    have k_X0_2 := X0.out.cell 2
    have k_X0_3 := X0.out.cell 3
    have k_X0_4 := X0.out.cell 4
    have k_X0_5 := X0.out.cell 5
    have k_X0_6 := X0.out.cell 6
    have k_X0_7 := X0.out.cell 7
    have k_X0_8 := X0.out.cell 8
    simp at k_B0_0 k_B0_1 k_B0_2 k_B0_3 k_B0_4 k_B0_5 k_B0_6 k_B0_7 k_B0_8 k_X0_0 k_X0_1 k_X0_2 k_X0_3 k_X0_4 k_X0_5 k_X0_6 k_X0_7 k_X0_8
    go_wp2_with fail
    clear k_B0_0 k_B0_1 k_B0_2 k_B0_3 k_B0_4 k_B0_5 k_B0_6 k_B0_7 k_B0_8 k_X0_0 k_X0_1 k_X0_2 k_X0_3 k_X0_4 k_X0_5 k_X0_6 k_X0_7 k_X0_8
    refine (markEngine_k m _ Fx0 1 _ Ox0.out HZ0.out (by omega) (by omega)).mono ?_
    rintro e y ⟨rfl, oo, cc⟩
    clear Ox0
    have Ox0 := Lib.hid oo
    clear oo
    have E := Lib.hid (blk_chg B0.out cc (fun hg => by have h1 := Lx0.out _ hg; have h2 := Ux0.out _ hg; omega))
    clear B0
    have B0 := E
    clear E
    have E := Lib.hid (blk_chg X0.out cc (fun hg => by have h1 := Lx0.out _ hg; have h2 := Ux0.out _ hg; omega))
    clear X0
    have X0 := E
    clear E
    have E := Lib.hid (own_chgK _ Owr0.out cc (fun g hg hx => by have h1 := Lwr0.out g hg; have h2 := Uwr0.out g hg; have h3 := Lx0.out g hx; have h4 := Ux0.out g hx; omega))
    clear Owr0
    have Owr0 := E
    clear E
    have E := Lib.hid (own_chgK _ Ogr0.out cc (fun g hg hx => by have h1 := Lgr0.out g hg; have h2 := Ugr0.out g hg; have h3 := Lx0.out g hx; have h4 := Ux0.out g hx; omega))
    clear Ogr0
    have Ogr0 := E
    clear E
    have z9 := Chg.size cc
    try simp at z9
    have E := Lib.hid (Chg.new G.out cc (fun g hg => by have h1 := Lx0.out g hg; omega))
    clear G
    have G := E
    clear E
    clear cc
    clear Ox0 Lx0 Ux0
    have kp : ¬ m.cnt 1 < 0 := by omega
    have k_B0_0 := B0.out.cell 0
    have k_B0_1 := B0.out.cell 1
    have k_B0_2 := B0.out.cell 2
    have k_B0_3 := B0.out.cell 3
    have k_B0_4 := B0.out.cell 4
    have k_B0_5 := B0.out.cell 5
    have k_B0_6 := B0.out.cell 6
    have k_B0_7 := B0.out.cell 7
    have k_B0_8 := B0.out.cell 8
    have k_X0_0 := X0.out.cell 0
    have k_X0_1 := X0.out.cell 1
    have k_X0_2 := X0.out.cell 2
    have k_X0_3 := X0.out.cell 3
    have k_X0_4 := X0.out.cell 4
    have k_X0_5 := X0.out.cell 5
    have k_X0_6 := X0.out.cell 6
    have k_X0_7 := X0.out.cell 7
    have k_X0_8 := X0.out.cell 8
    simp at k_B0_0 k_B0_1 k_B0_2 k_B0_3 k_B0_4 k_B0_5 k_B0_6 k_B0_7 k_B0_8 k_X0_0 k_X0_1 k_X0_2 k_X0_3 k_X0_4 k_X0_5 k_X0_6 k_X0_7 k_X0_8
    go_wp2_with fail
    clear k_B0_0 k_B0_1 k_B0_2 k_B0_3 k_B0_4 k_B0_5 k_B0_6 k_B0_7 k_B0_8 k_X0_0 k_X0_1 k_X0_2 k_X0_3 k_X0_4 k_X0_5 k_X0_6 k_X0_7 k_X0_8
    refine (eqIntS_k r0 _ _ _ (CS.toRd _ Ogr0.out) (CS.toRd _ Owr0.out) HL0.out).mono ?_
    rintro e y ⟨rfl, g⟩
    have E := Lib.hid (Blk.grow B0.out g)
    clear B0
    have B0 := E
    clear E
    have E := Lib.hid (Blk.grow X0.out g)
    clear X0
    have X0 := E
    clear E
    have E := Lib.hid (own_growK _ Owr0.out g)
    clear Owr0
    have Owr0 := E
    clear E
    have E := Lib.hid (own_growK _ Ogr0.out g)
    clear Ogr0
    have Ogr0 := E
    clear E
    have z10 := World.grownBy.size g
    try simp at z10
    have E := Lib.hid (gbT G.out g)
    clear G
    have G := E
    clear E
    clear g
    have k_B0_0 := B0.out.cell 0
    have k_B0_1 := B0.out.cell 1
    have k_B0_2 := B0.out.cell 2
    have k_B0_3 := B0.out.cell 3
    have k_B0_4 := B0.out.cell 4
    have k_B0_5 := B0.out.cell 5
    have k_B0_6 := B0.out.cell 6
    have k_B0_7 := B0.out.cell 7
    have k_B0_8 := B0.out.cell 8
    have k_X0_0 := X0.out.cell 0
    have k_X0_1 := X0.out.cell 1
    have k_X0_2 := X0.out.cell 2
    have k_X0_3 := X0.out.cell 3
    have k_X0_4 := X0.out.cell 4
    have k_X0_5 := X0.out.cell 5
    have k_X0_6 := X0.out.cell 6
    have k_X0_7 := X0.out.cell 7
    have k_X0_8 := X0.out.cell 8
    simp at k_B0_0 k_B0_1 k_B0_2 k_B0_3 k_B0_4 k_B0_5 k_B0_6 k_B0_7 k_B0_8 k_X0_0 k_X0_1 k_X0_2 k_X0_3 k_X0_4 k_X0_5 k_X0_6 k_X0_7 k_X0_8
    go_wp2_with fail
    clear k_B0_0 k_B0_1 k_B0_2 k_B0_3 k_B0_4 k_B0_5 k_B0_6 k_B0_7 k_B0_8 k_X0_0 k_X0_1 k_X0_2 k_X0_3 k_X0_4 k_X0_5 k_X0_6 k_X0_7 k_X0_8
    refine (markIntS_k r0 _ Fgr0 (1) _ Ogr0.out HL0.out (by omega) (by omega)).mono ?_
    rintro e y ⟨rfl, oo, cc⟩
    clear Ogr0
    have Ogr0 := Lib.hid oo
    clear oo
    have E := Lib.hid (blk_chg B0.out cc (fun hg => by have h1 := Lgr0.out _ hg; have h2 := Ugr0.out _ hg; omega))
    clear B0
    have B0 := E
    clear E
    have E := Lib.hid (blk_chg X0.out cc (fun hg => by have h1 := Lgr0.out _ hg; have h2 := Ugr0.out _ hg; omega))
    clear X0
    have X0 := E
    clear E
    have E := Lib.hid (own_chgK _ Owr0.out cc (fun g hg hx => by have h1 := Lwr0.out g hg; have h2 := Uwr0.out g hg; have h3 := Lgr0.out g hx; have h4 := Ugr0.out g hx; omega))
    clear Owr0
    have Owr0 := E
    clear E
    have z11 := Chg.size cc
    try simp at z11
    have E := Lib.hid (Chg.new G.out cc (fun g hg => by have h1 := Lgr0.out g hg; omega))
    clear G
    have G := E
    clear E
    clear cc
    have k_B0_0 := B0.out.cell 0
    have k_B0_1 := B0.out.cell 1
    have k_B0_2 := B0.out.cell 2
    have k_B0_3 := B0.out.cell 3
    have k_B0_4 := B0.out.cell 4
    have k_B0_5 := B0.out.cell 5
    have k_B0_6 := B0.out.cell 6
    have k_B0_7 := B0.out.cell 7
    have k_B0_8 := B0.out.cell 8
    have k_X0_0 := X0.out.cell 0
    have k_X0_1 := X0.out.cell 1
    have k_X0_2 := X0.out.cell 2
    have k_X0_3 := X0.out.cell 3
    have k_X0_4 := X0.out.cell 4
    have k_X0_5 := X0.out.cell 5
    have k_X0_6 := X0.out.cell 6
    have k_X0_7 := X0.out.cell 7
    have k_X0_8 := X0.out.cell 8
    simp at k_B0_0 k_B0_1 k_B0_2 k_B0_3 k_B0_4 k_B0_5 k_B0_6 k_B0_7 k_B0_8 k_X0_0 k_X0_1 k_X0_2 k_X0_3 k_X0_4 k_X0_5 k_X0_6 k_X0_7 k_X0_8
    go_wp2_with fail
    clear k_B0_0 k_B0_1 k_B0_2 k_B0_3 k_B0_4 k_B0_5 k_B0_6 k_B0_7 k_B0_8 k_X0_0 k_X0_1 k_X0_2 k_X0_3 k_X0_4 k_X0_5 k_X0_6 k_X0_7 k_X0_8
    refine (heldIntS_k r0.length _ (1) _ (CS.toRd _ Ogr0.out) HL0.out (by omega) (by omega)).mono ?_
    rintro e y ⟨rfl, g⟩
    have E := Lib.hid (Blk.grow B0.out g)
    clear B0
    have B0 := E
    clear E
    have E := Lib.hid (Blk.grow X0.out g)
    clear X0
    have X0 := E
    clear E
    have E := Lib.hid (own_growK _ Owr0.out g)
    clear Owr0
    have Owr0 := E
    clear E
    have E := Lib.hid (own_growK _ Ogr0.out g)
    clear Ogr0
    have Ogr0 := E
    clear E
    have z12 := World.grownBy.size g
    try simp at z12
    have E := Lib.hid (gbT G.out g)
    clear G
    have G := E
    clear E
    clear g
    have khr0 : ¬ 1 + r0.length < 0 := by omega
    have k_B0_0 := B0.out.cell 0
    have k_B0_1 := B0.out.cell 1
    have k_B0_2 := B0.out.cell 2
    have k_B0_3 := B0.out.cell 3
    have k_B0_4 := B0.out.cell 4
    have k_B0_5 := B0.out.cell 5
    have k_B0_6 := B0.out.cell 6
    have k_B0_7 := B0.out.cell 7
    have k_B0_8 := B0.out.cell 8
    have k_X0_0 := X0.out.cell 0
    have k_X0_1 := X0.out.cell 1
    have k_X0_2 := X0.out.cell 2
    have k_X0_3 := X0.out.cell 3
    have k_X0_4 := X0.out.cell 4
    have k_X0_5 := X0.out.cell 5
    have k_X0_6 := X0.out.cell 6
    have k_X0_7 := X0.out.cell 7
    have k_X0_8 := X0.out.cell 8
    simp at k_B0_0 k_B0_1 k_B0_2 k_B0_3 k_B0_4 k_B0_5 k_B0_6 k_B0_7 k_B0_8 k_X0_0 k_X0_1 k_X0_2 k_X0_3 k_X0_4 k_X0_5 k_X0_6 k_X0_7 k_X0_8
    go_wp2_with fail
    clear k_B0_0 k_B0_1 k_B0_2 k_B0_3 k_B0_4 k_B0_5 k_B0_6 k_B0_7 k_B0_8 k_X0_0 k_X0_1 k_X0_2 k_X0_3 k_X0_4 k_X0_5 k_X0_6 k_X0_7 k_X0_8
    clear khr0
    refine (toEngine_k m _ _ (AggR.grow HA0.out G.out) HZ0.out).mono ?_
    rintro e y ⟨uu, Fh0, rfl, oo, ll, g⟩
    obtain ⟨ah0_1, nh0_1, sh0_1, ah0_2, nh0_2, sh0_2, ah0_3, nh0_3, sh0_3, ah0_4, nh0_4, sh0_4, ah0_5, nh0_5, sh0_5, rfl⟩ := cengine_oform oo
    try simp at ll
    have Oh0 := Lib.hid oo
    have Lh0 := Lib.hid ll
    have Uh0 := Lib.hid (AggO.lt oo)
    have E := Lib.hid (Blk.grow B0.out g)
    clear B0
    have B0 := E
    clear E
    have E := Lib.hid (Blk.grow X0.out g)
    clear X0
    have X0 := E
    clear E
    have E := Lib.hid (own_growK _ Owr0.out g)
    clear Owr0
    have Owr0 := E
    clear E
    have E := Lib.hid (own_growK _ Ogr0.out g)
    clear Ogr0
    have Ogr0 := E
    clear E
    have z13 := World.grownBy.size g
    try simp at z13
    have E := Lib.hid (gbT G.out g)
    clear G
    have G := E
    clear E
    clear g oo ll
    have k_B0_0 := B0.out.cell 0
    have k_B0_1 := B0.out.cell 1
    have k_B0_2 := B0.out.cell 2
    have k_B0_3 := B0.out.cell 3
    have k_B0_4 := B0.out.cell 4
    have k_B0_5 := B0.out.cell 5
    have k_B0_6 := B0.out.cell 6
    have k_B0_7 := B0.out.cell 7
    have k_B0_8 := B0.out.cell 8
    have k_X0_0 := X0.out.cell 0
    have k_X0_1 := X0.out.cell 1
    have k_X0_2 := X0.out.cell 2
    have k_X0_3 := X0.out.cell 3
    have k_X0_4 := X0.out.cell 4
    have k_X0_5 := X0.out.cell 5
    have k_X0_6 := X0.out.cell 6
    have k_X0_7 := X0.out.cell 7
    have k_X0_8 := X0.out.cell 8
    simp at k_B0_0 k_B0_1 k_B0_2 k_B0_3 k_B0_4 k_B0_5 k_B0_6 k_B0_7 k_B0_8 k_X0_0 k_X0_1 k_X0_2 k_X0_3 k_X0_4 k_X0_5 k_X0_6 k_X0_7 k_X0_8
    go_wp2_with fail
    clear k_B0_0 k_B0_1 k_B0_2 k_B0_3 k_B0_4 k_B0_5 k_B0_6 k_B0_7 k_B0_8 k_X0_0 k_X0_1 k_X0_2 k_X0_3 k_X0_4 k_X0_5 k_X0_6 k_X0_7 k_X0_8
    refine (HI.out _ _ Oh0.out.rd).mono ?_
    rintro e y ⟨Vhr0, Fhr0, rfl, ohr0, lhr0, g⟩
    obtain ⟨ahr0, nhr0, shr0, rfl⟩ := row_form ohr0
    try simp at lhr0
    have Ohr0 := Lib.hid ohr0
    have Lhr0 := Lib.hid lhr0
    have Uhr0 := Lib.hid (CS.lt _ ohr0)
    have E := Lib.hid (Blk.grow B0.out g)
    clear B0
    have B0 := E
    clear E
    have E := Lib.hid (Blk.grow X0.out g)
    clear X0
    have X0 := E
    clear E
    have E := Lib.hid (own_growK _ Owr0.out g)
    clear Owr0
    have Owr0 := E
    clear E
    have E := Lib.hid (own_growK _ Ogr0.out g)
    clear Ogr0
    have Ogr0 := E
    clear E
    have E := Lib.hid (AggO.grow Oh0.out g)
    clear Oh0
    have Oh0 := E
    clear E
    have z14 := World.grownBy.size g
    try simp at z14
    have E := Lib.hid (gbT G.out g)
    clear G
    have G := E
    clear E
    clear g ohr0 lhr0
    clear Oh0 Lh0 Uh0
    have k_B0_0 := B0.out.cell 0
    have k_B0_1 := B0.out.cell 1
    have k_B0_2 := B0.out.cell 2
    have k_B0_3 := B0.out.cell 3
    have k_B0_4 := B0.out.cell 4
    have k_B0_5 := B0.out.cell 5
    have k_B0_6 := B0.out.cell 6
    have k_B0_7 := B0.out.cell 7
    have k_B0_8 := B0.out.cell 8
    have k_X0_0 := X0.out.cell 0
    have k_X0_1 := X0.out.cell 1
    have k_X0_2 := X0.out.cell 2
    have k_X0_3 := X0.out.cell 3
    have k_X0_4 := X0.out.cell 4
    have k_X0_5 := X0.out.cell 5
    have k_X0_6 := X0.out.cell 6
    have k_X0_7 := X0.out.cell 7
    have k_X0_8 := X0.out.cell 8
    simp at k_B0_0 k_B0_1 k_B0_2 k_B0_3 k_B0_4 k_B0_5 k_B0_6 k_B0_7 k_B0_8 k_X0_0 k_X0_1 k_X0_2 k_X0_3 k_X0_4 k_X0_5 k_X0_6 k_X0_7 k_X0_8
    go_wp2_with fail
    clear k_B0_0 k_B0_1 k_B0_2 k_B0_3 k_B0_4 k_B0_5 k_B0_6 k_B0_7 k_B0_8 k_X0_0 k_X0_1 k_X0_2 k_X0_3 k_X0_4 k_X0_5 k_X0_6 k_X0_7 k_X0_8
    refine (eqIntS_k r0 _ _ _ (CS.toRd _ Ohr0.out) (CS.toRd _ Owr0.out) HL0.out).mono ?_
    rintro e y ⟨rfl, g⟩
    have E := Lib.hid (Blk.grow B0.out g)
    clear B0
    have B0 := E
    clear E
    have E := Lib.hid (Blk.grow X0.out g)
    clear X0
    have X0 := E
    clear E
    have E := Lib.hid (own_growK _ Owr0.out g)
    clear Owr0
    have Owr0 := E
    clear E
    have E := Lib.hid (own_growK _ Ogr0.out g)
    clear Ogr0
    have Ogr0 := E
    clear E
    have E := Lib.hid (own_growK _ Ohr0.out g)
    clear Ohr0
    have Ohr0 := E
    clear E
    have z15 := World.grownBy.size g
    try simp at z15
    have E := Lib.hid (gbT G.out g)
    clear G
    have G := E
    clear E
    clear g
    have k_B0_0 := B0.out.cell 0
    have k_B0_1 := B0.out.cell 1
    have k_B0_2 := B0.out.cell 2
    have k_B0_3 := B0.out.cell 3
    have k_B0_4 := B0.out.cell 4
    have k_B0_5 := B0.out.cell 5
    have k_B0_6 := B0.out.cell 6
    have k_B0_7 := B0.out.cell 7
    have k_B0_8 := B0.out.cell 8
    have k_X0_0 := X0.out.cell 0
    have k_X0_1 := X0.out.cell 1
    have k_X0_2 := X0.out.cell 2
    have k_X0_3 := X0.out.cell 3
    have k_X0_4 := X0.out.cell 4
    have k_X0_5 := X0.out.cell 5
    have k_X0_6 := X0.out.cell 6
    have k_X0_7 := X0.out.cell 7
    have k_X0_8 := X0.out.cell 8
    simp at k_B0_0 k_B0_1 k_B0_2 k_B0_3 k_B0_4 k_B0_5 k_B0_6 k_B0_7 k_B0_8 k_X0_0 k_X0_1 k_X0_2 k_X0_3 k_X0_4 k_X0_5 k_X0_6 k_X0_7 k_X0_8
    go_wp2_with fail
    clear k_B0_0 k_B0_1 k_B0_2 k_B0_3 k_B0_4 k_B0_5 k_B0_6 k_B0_7 k_B0_8 k_X0_0 k_X0_1 k_X0_2 k_X0_3 k_X0_4 k_X0_5 k_X0_6 k_X0_7 k_X0_8
    refine (heldIntS_k r0.length _ (1) _ (CS.toRd _ Ogr0.out) HL0.out (by omega) (by omega)).mono ?_
    rintro e y ⟨rfl, g⟩
    have E := Lib.hid (Blk.grow B0.out g)
    clear B0
    have B0 := E
    clear E
    have E := Lib.hid (Blk.grow X0.out g)
    clear X0
    have X0 := E
    clear E
    have E := Lib.hid (own_growK _ Owr0.out g)
    clear Owr0
    have Owr0 := E
    clear E
    have E := Lib.hid (own_growK _ Ogr0.out g)
    clear Ogr0
    have Ogr0 := E
    clear E
    have E := Lib.hid (own_growK _ Ohr0.out g)
    clear Ohr0
    have Ohr0 := E
    clear E
    have z16 := World.grownBy.size g
    try simp at z16
    have E := Lib.hid (gbT G.out g)
    clear G
    have G := E
    clear E
    clear g
    have khr0 : ¬ 1 + r0.length < 0 := by omega
    have k_B0_0 := B0.out.cell 0
    have k_B0_1 := B0.out.cell 1
    have k_B0_2 := B0.out.cell 2
    have k_B0_3 := B0.out.cell 3
    have k_B0_4 := B0.out.cell 4
    have k_B0_5 := B0.out.cell 5
    have k_B0_6 := B0.out.cell 6
    have k_B0_7 := B0.out.cell 7
    have k_B0_8 := B0.out.cell 8
    have k_X0_0 := X0.out.cell 0
    have k_X0_1 := X0.out.cell 1
    have k_X0_2 := X0.out.cell 2
    have k_X0_3 := X0.out.cell 3
    have k_X0_4 := X0.out.cell 4
    have k_X0_5 := X0.out.cell 5
    have k_X0_6 := X0.out.cell 6
    have k_X0_7 := X0.out.cell 7
    have k_X0_8 := X0.out.cell 8
    simp at k_B0_0 k_B0_1 k_B0_2 k_B0_3 k_B0_4 k_B0_5 k_B0_6 k_B0_7 k_B0_8 k_X0_0 k_X0_1 k_X0_2 k_X0_3 k_X0_4 k_X0_5 k_X0_6 k_X0_7 k_X0_8
    go_wp2_with fail
    clear k_B0_0 k_B0_1 k_B0_2 k_B0_3 k_B0_4 k_B0_5 k_B0_6 k_B0_7 k_B0_8 k_X0_0 k_X0_1 k_X0_2 k_X0_3 k_X0_4 k_X0_5 k_X0_6 k_X0_7 k_X0_8
    clear khr0
    go_ret
    exact ⟨rfl, G.out⟩
theorem OutJ.ownS {m : EM} {w w' : World} {e : Ending} (h : OutJ m w e w') : ∃ V F, e = .returned (.tuple #[V, .bool (outB m)]) ∧ (cints (outR m)).own w' F V ∧ (∀ g ∈ F, w.heap.size ≤ g) ∧ w.grownBy w' none := by
  obtain ⟨V, h1, h2, h3⟩ := h
  exact ⟨V, _, h1, cints_own h2, fun g hg => (h2.lt g (by simpa using hg)).1, h3⟩
theorem outR_len (m : EM) (hz : m.sz ≤ 1048576) : (outR m).length ≤ 1048576 := by
  have h1 : m.c.outs.length ≤ m.sz := by unfold EM.sz AM.sz; omega
  unfold outR
  split
  · rw [List.length_map]; omega
  · simp
theorem FnExactEngineOutputs.walk (w : World) (m : EM) (v : Value) (h : AggR w (cengine m) v) (wf : m.wf)  :
    Calls Try.prog 6 #[v] w fun e w' => e = .returned (.bool true) ∧ w.grownBy w' none := by
  by_cases hz : m.sz ≤ 1048576
  · exact FnExactEngineOutputs.core m (outR m) (outB m) w v h hz (outR_len m hz) (fun w v h => (specEngineOutputs_c m v w h (EM.ewf wf hz)).mono fun _ _ h => h.ownS) (fun w v h => (implEngineOutputs_c m v w h (EM.ewf wf hz)).mono fun _ _ h => h.ownS)
  · have HZ := Lib.hid (szO_no (Nat.lt_of_not_le hz))
    have HA := Lib.hid h
    obtain ⟨A, B, C, D, E, a, b, c, d, e, rfl, _⟩ := cengine_open h
    clear h hz
    go_enter Try.func6, Try.ntmps6
    go_wp2_with fail
    refine (szEngine_k m _ 1048576 _ (AggR.grow HA.out (gbA (gbR w none) _)) (by omega)).mono ?_
    rintro e y ⟨rfl, g⟩
    rw [HZ.out]
    have G := Lib.hid (gbT (gbA (gbR w none) _) g)
    clear g
    go_wp2_with fail
    go_ret
    exact ⟨rfl, G.out⟩
end Go.Proofs.Ythaadgdeadbhkaa
