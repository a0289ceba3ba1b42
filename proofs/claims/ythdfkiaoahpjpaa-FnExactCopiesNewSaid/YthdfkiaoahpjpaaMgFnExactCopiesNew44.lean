/-
  Exact laws (cores printed by wip/gen_exact.py).
-/
import Derived.Test.YthdfkiaoahpjpaaMgFnExactCopiesNew38
import Derived.Test.YthdfkiaoahpjpaaMgFnExactCopiesNew41
import Derived.Test.YthdfkiaoahpjpaaMgFnExactCopiesNew43
namespace Go.Proofs.Ythdfkiaoahpjpaa
open Go.RowKit
set_option linter.unusedVariables false
set_option linter.unusedSimpArgs false
set_option maxRecDepth 100000 in
set_option maxHeartbeats 4000000 in
theorem FnExactCopiesNew.core (m : CM) (es : List Int) (r0 : List PbM) (w : World) (v0 v1 : Value) (ha0 : AggR w (ccircuit m) v0) (ha1 : (cints es).rd w v1) (hz0 : m.sz ≤ 1048576) (hz1 : es.length ≤ 1048576) (hs0 : fitP r0)
    (hs : ∀ (w : World) (v0 v1 : Value), AggR w (ccircuit m) v0 → (cints es).rd w v1 → Calls Try.prog 27 #[v0, v1] w fun e w' => ∃ Vr0 Fr0, e = .returned (Vr0) ∧ (cpubs r0).own w' Fr0 Vr0 ∧ (∀ g ∈ Fr0, w.heap.size ≤ g) ∧ w.grownBy w' none)
    (hi : ∀ (w : World) (v0 v1 : Value), AggR w (ccircuit m) v0 → (cints es).rd w v1 → Calls Try.prog 30 #[v0, v1] w fun e w' => ∃ Vr0 Fr0, e = .returned (Vr0) ∧ (cpubs r0).own w' Fr0 Vr0 ∧ (∀ g ∈ Fr0, w.heap.size ≤ g) ∧ w.grownBy w' none) :
    Calls Try.prog 6 #[v0, v1] w fun e w' => e = .returned (.bool true) ∧ w.grownBy w' none := by
  have HS := Lib.hid hs
  have HI := Lib.hid hi
  obtain ⟨p0_0, p0_1, rfl, _, _⟩ := ccircuit_open (m := m) ha0
  have kc0 : 1 ≤ m.cnt 1 ∧ m.cnt 1 ≤ 16777216 := by
    unfold CM.cnt
    unfold CM.sz at hz0
    omega
  have HA0 := Lib.hid ha0
  have HZ0 := Lib.hid hz0
  obtain ⟨pa1, pc1, rfl, _, _, _⟩ := cints_rd ha1
  have hb1 : ¬ (1048576 : Int) < (es.length : Int) := by omega
  have HA1 := Lib.hid ha1
  have HZ1 := Lib.hid hz1
  have HL0 := Lib.hid hs0
  have hps0 : puS r0 r0.length ≤ 16777216 := hs0.2.2
  clear hs hi ha0 ha1 hz0 hz1
  have B0 := Lib.hid (Blk.new w 44 #[p0_0, p0_1])
  have G := Lib.hid (gbA (gbR w none) (.cells #[p0_0, p0_1] 44))
  go_enter Try.func6, Try.ntmps6
  have z0 : w.heap.size ≤ w.heap.size := Nat.le_refl _
  have k1 : ¬ ((1048576 - m.sz : Nat) : Int) < 0 := by omega
  have k_B0_0 := B0.out.cell 0
  have k_B0_1 := B0.out.cell 1
  simp at k_B0_0 k_B0_1
  go_wp2_with fail
  clear k_B0_0 k_B0_1
  refine (szCircuit_k m _ 1048576 _ (AggR.grow HA0.out G.out) (by omega)).mono ?_
  rintro e y ⟨rfl, g⟩
  rw [szO_yes HZ0.out]
  have E := Lib.hid (Blk.grow B0.out g)
  clear B0
  have B0 := E
  clear E
  have z1 := World.grownBy.size g
  try simp at z1
  have E := Lib.hid (gbT G.out g)
  clear G
  have G := E
  clear E
  clear g k1
  have k_B0_0 := B0.out.cell 0
  have k_B0_1 := B0.out.cell 1
  simp at k_B0_0 k_B0_1
  go_wp2_with fail
  clear k_B0_0 k_B0_1
  refine (toCircuit_k m _ _ (AggR.grow HA0.out G.out) HZ0.out).mono ?_
  rintro e y ⟨uu, Fw0, rfl, oo, ll, g⟩
  obtain ⟨aw0_0, nw0_0, sw0_0, aw0_1, nw0_1, sw0_1, rfl⟩ := ccircuit_oform oo
  try simp at ll
  have Ow0 := Lib.hid oo
  have Lw0 := Lib.hid ll
  have Uw0 := Lib.hid (AggO.lt oo)
  have E := Lib.hid (Blk.grow B0.out g)
  clear B0
  have B0 := E
  clear E
  have z2 := World.grownBy.size g
  try simp at z2
  have E := Lib.hid (gbT G.out g)
  clear G
  have G := E
  clear E
  clear g oo ll
  have k_B0_0 := B0.out.cell 0
  have k_B0_1 := B0.out.cell 1
  simp at k_B0_0 k_B0_1
  go_wp2_with fail
  clear k_B0_0 k_B0_1
  refine (toIntS_k es _ _ (CS.grow _ HA1.out G.out) HZ1.out).mono ?_
  rintro e y ⟨uu, Fw1, rfl, oo, ll, g⟩
  obtain ⟨aw1, nw1, sw1, rfl⟩ := row_form oo
  try simp at ll
  have Ow1 := Lib.hid oo
  have Lw1 := Lib.hid ll
  have Uw1 := Lib.hid (CS.lt _ oo)
  have E := Lib.hid (Blk.grow B0.out g)
  clear B0
  have B0 := E
  clear E
  have E := Lib.hid (AggO.grow Ow0.out g)
  clear Ow0
  have Ow0 := E
  clear E
  have z3 := World.grownBy.size g
  try simp at z3
  have E := Lib.hid (gbT G.out g)
  clear G
  have G := E
  clear E
  clear g oo ll
  have k_B0_0 := B0.out.cell 0
  have k_B0_1 := B0.out.cell 1
  simp at k_B0_0 k_B0_1
  go_wp2_with fail
  clear k_B0_0 k_B0_1
  refine (HS.out _ _ _ Ow0.out.rd (CS.toRd _ Ow1.out)).mono ?_
  rintro e y ⟨Vwr0, Fwr0, rfl, owr0, lwr0, g⟩
  obtain ⟨awr0, nwr0, swr0, rfl⟩ := row_form owr0
  try simp at lwr0
  have Owr0 := Lib.hid owr0
  have Lwr0 := Lib.hid lwr0
  have Uwr0 := Lib.hid (CS.lt _ owr0)
  have E := Lib.hid (Blk.grow B0.out g)
  clear B0
  have B0 := E
  clear E
  have E := Lib.hid (AggO.grow Ow0.out g)
  clear Ow0
  have Ow0 := E
  clear E
  have E := Lib.hid (own_growK _ Ow1.out g)
  clear Ow1
  have Ow1 := E
  clear E
  have z4 := World.grownBy.size g
  try simp at z4
  have E := Lib.hid (gbT G.out g)
  clear G
  have G := E
  clear E
  clear g owr0 lwr0
  clear Ow0 Lw0 Uw0
  clear Ow1 Lw1 Uw1
  have k_B0_0 := B0.out.cell 0
  have k_B0_1 := B0.out.cell 1
  simp at k_B0_0 k_B0_1
  go_wp2_with fail
  clear k_B0_0 k_B0_1
  refine (toCircuit_k m _ _ (AggR.grow HA0.out G.out) HZ0.out).mono ?_
  rintro e y ⟨uu, Fx0, rfl, oo, ll, g⟩
  obtain ⟨ax0_0, nx0_0, sx0_0, ax0_1, nx0_1, sx0_1, rfl⟩ := ccircuit_oform oo
  try simp at ll
  have Ox0 := Lib.hid oo
  have Lx0 := Lib.hid ll
  have Ux0 := Lib.hid (AggO.lt oo)
  have E := Lib.hid (Blk.grow B0.out g)
  clear B0
  have B0 := E
  clear E
  have E := Lib.hid (own_growK _ Owr0.out g)
  clear Owr0
  have Owr0 := E
  clear E
  have z5 := World.grownBy.size g
  try simp at z5
  have E := Lib.hid (gbT G.out g)
  clear G
  have G := E
  clear E
  clear g oo ll
  have X := Lib.hid (Blk.new y 28 #[.slice ax0_0 nx0_0 sx0_0, .slice ax0_1 nx0_1 sx0_1])
  have ga : y.grownBy (y.alloc (.cells #[.slice ax0_0 nx0_0 sx0_0, .slice ax0_1 nx0_1 sx0_1] 28)) none := gbA (gbR y none) _
  have E := Lib.hid (Blk.grow B0.out ga)
  clear B0
  have B0 := E
  clear E
  have E := Lib.hid (own_growK _ Owr0.out ga)
  clear Owr0
  have Owr0 := E
  clear E
  have E := Lib.hid (AggO.grow Ox0.out ga)
  clear Ox0
  have Ox0 := E
  clear E
  have z6 := World.grownBy.size ga
  try simp at z6
  have E := Lib.hid (gbT G.out ga)
  clear G
  have G := E
  clear E
  clear ga
  have X0 := X
  clear X
  go_wp2_with fail
  refine (toIntS_k es _ _ (CS.grow _ HA1.out G.out) HZ1.out).mono ?_
  rintro e y ⟨uu, Fx1, rfl, oo, ll, g⟩
  obtain ⟨ax1, nx1, sx1, rfl⟩ := row_form oo
  try simp at ll
  have Ox1 := Lib.hid oo
  have Lx1 := Lib.hid ll
  have Ux1 := Lib.hid (CS.lt _ oo)
  have E := Lib.hid (Blk.grow B0.out g)
  clear B0
  have B0 := E
  clear E
  have E := Lib.hid (Blk.grow X0.out g)
  clear X0
  have X0 := E
  clear E
  have E := Lib.hid (own_growK _ Owr0.out g)
  clear Owr0
  have Owr0 := E
  clear E
  have E := Lib.hid (AggO.grow Ox0.out g)
  clear Ox0
  have Ox0 := E
  clear E
  have z7 := World.grownBy.size g
  try simp at z7
  have E := Lib.hid (gbT G.out g)
  clear G
  have G := E
  clear E
  clear g oo ll
  have k_B0_0 := B0.out.cell 0
  have k_B0_1 := B0.out.cell 1
  have k_X0_0 := X0.out.cell 0
  have k_X0_1 := X0.out.cell 1
  simp at k_B0_0 k_B0_1 k_X0_0 k_X0_1
  go_wp2_with fail
  clear k_B0_0 k_B0_1 k_X0_0 k_X0_1
  refine (HI.out _ _ _ Ox0.out.rd (CS.toRd _ Ox1.out)).mono ?_
  rintro e y ⟨Vgr0, Fgr0, rfl, ogr0, lgr0, g⟩
  obtain ⟨agr0, ngr0, sgr0, rfl⟩ := row_form ogr0
  try simp at lgr0
  have Ogr0 := Lib.hid ogr0
  have Lgr0 := Lib.hid lgr0
  have Ugr0 := Lib.hid (CS.lt _ ogr0)
  have E := Lib.hid (Blk.grow B0.out g)
  clear B0
  have B0 := E
  clear E
  have E := Lib.hid (Blk.grow X0.out g)
  clear X0
  have X0 := E
  clear E
  have E := Lib.hid (own_growK _ Owr0.out g)
  clear Owr0
  have Owr0 := E
  clear E
  have E := Lib.hid (AggO.grow Ox0.out g)
  clear Ox0
  have Ox0 := E
  clear E
  have E := Lib.hid (own_growK _ Ox1.out g)
  clear Ox1
  have Ox1 := E
  clear E
  have z8 := World.grownBy.size g
  try simp at z8
  have E := Lib.hid (gbT G.out g)
  clear G
  have G := E
  clear E
  clear g ogr0 lgr0
  have k_B0_0 := B0.out.cell 0
  have k_B0_1 := B0.out.cell 1
  have k_X0_0 := X0.out.cell 0
  have k_X0_1 := X0.out.cell 1
  simp at k_B0_0 k_B0_1 k_X0_0 k_X0_1
  go_wp2_with fail
  clear k_B0_0 k_B0_1 k_X0_0 k_X0_1
  refine (eqPublicS_z r0 _ _ _ (CS.toRd _ Ogr0.out) (CS.toRd _ Owr0.out) HL0.out).mono ?_
  rintro e y ⟨rfl, g⟩
  have E := Lib.hid (Blk.grow B0.out g)
  clear B0
  have B0 := E
  clear E
  have E := Lib.hid (Blk.grow X0.out g)
  clear X0
  have X0 := E
  clear E
  have E := Lib.hid (own_growK _ Owr0.out g)
  clear Owr0
  have Owr0 := E
  clear E
  have E := Lib.hid (AggO.grow Ox0.out g)
  clear Ox0
  have Ox0 := E
  clear E
  have E := Lib.hid (own_growK _ Ox1.out g)
  clear Ox1
  have Ox1 := E
  clear E
  have E := Lib.hid (own_growK _ Ogr0.out g)
  clear Ogr0
  have Ogr0 := E
  clear E
  have z9 := World.grownBy.size g
  try simp at z9
  have E := Lib.hid (gbT G.out g)
  clear G
  have G := E
  clear E
  clear g
  have k_B0_0 := B0.out.cell 0
  have k_B0_1 := B0.out.cell 1
  have k_X0_0 := X0.out.cell 0
  have k_X0_1 := X0.out.cell 1
  simp at k_B0_0 k_B0_1 k_X0_0 k_X0_1
  go_wp2_with fail
  clear k_B0_0 k_B0_1 k_X0_0 k_X0_1
  refine region_grow [isV (.agg #[.slice ax0_0 nx0_0 sx0_0, .slice ax0_1 nx0_1 sx0_1]), isV (.agg #[p0_0, p0_1]), fun v w => AggR w (ccircuit m) v, isV (.bool true), isV (.bool false)] (by kernel_rfl) (by kernel_rfl) (by kernel_rfl) (by simp only [stables, List.mem_cons, List.not_mem_nil, or_false, forall_eq_or_imp, forall_eq]; exact ⟨isV_st _, isV_st _, fun _ _ _ h hg => AggR.grow h hg, isV_st _, isV_st _⟩) ?_ ?_
  · simp only [hops, and_true]
    refine ⟨?_, ?_, ?_, ?_, ?_⟩
    all_goals
      intro f w1 hG hd
      have k_X0_0 := (X0.out.grow (gdT' hG)).cell 0
      have k_X0_1 := (X0.out.grow (gdT' hG)).cell 1
      have k_B0_0 := (B0.out.grow (gdT' hG)).cell 0
      have k_B0_1 := (B0.out.grow (gdT' hG)).cell 1
      simp at k_X0_0 k_X0_1 k_B0_0 k_B0_1
      have GG := Lib.hid (gbT G.out (gdT' hG))
      have OO := Lib.hid (AggR.grow (Ox0.out.grow (gdT' hG)).rd (gbR _ _))
      simp [deps, tAt, isV] at hd
      first | simp [puts, dsts, Act.put, hd] | simp [puts, dsts, Act.put]
      go_wp2_with (first | (go_at_call 28; refine (toCircuit_k m _ _ (AggR.grow HA0.out GG.out) HZ0.out).mono ?_; rintro e w2 ⟨uu, FF, rfl, oo, ll, hw⟩) | (go_at_call 32; refine (eqCircuit_k m _ _ _ OO.out hd.2 HZ0.out).mono ?_; rintro e w2 ⟨rfl, hw⟩))
    all_goals exact ⟨_, rfl, by first | with_reducible exact gbR _ _ | exact hw, by first | (simp [tAt, isV]; done) | exact oo.rd⟩
  · intro f y hG hd
    have g := gdT' hG
    simp [knows, tAt, isV] at hd
    obtain ⟨h1, h2, h3, h4, h5⟩ := hd
    have E := Lib.hid (Blk.grow B0.out g)
    clear B0
    have B0 := E
    clear E
    have E := Lib.hid (Blk.grow X0.out g)
    clear X0
    have X0 := E
    clear E
    have E := Lib.hid (own_growK _ Owr0.out g)
    clear Owr0
    have Owr0 := E
    clear E
    have E := Lib.hid (AggO.grow Ox0.out g)
    clear Ox0
    have Ox0 := E
    clear E
    have E := Lib.hid (own_growK _ Ox1.out g)
    clear Ox1
    have Ox1 := E
    clear E
    have E := Lib.hid (own_growK _ Ogr0.out g)
    clear Ogr0
    have Ogr0 := E
    clear E
    have z10 := World.grownBy.size g
    try simp at z10
    have E := Lib.hid (gbT G.out g)
    clear G
    have G := E
    clear E
    clear g hG
    simp only [puts, dsts, Act.put, h1, h2, h4, h5, List.filterMap_cons, List.filterMap_nil, List.setIfInBounds_toArray, List.set_cons_zero, List.set_cons_succ]
    clear h1 h2 h3 h4 h5
    have k_B0_0 := B0.out.cell 0
    have k_B0_1 := B0.out.cell 1
    have k_X0_0 := X0.out.cell 0
    have k_X0_1 := X0.out.cell 1
    simp at k_B0_0 k_B0_1 k_X0_0 k_X0_1
    go_wp2_with fail
    clear k_B0_0 k_B0_1 k_X0_0 k_X0_1
    refine (toIntS_k es _ _ (CS.grow _ HA1.out G.out) HZ1.out).mono ?_
    rintro e y ⟨uu, Fy1, rfl, oo, ll, g⟩
    obtain ⟨ay1, ny1, sy1, rfl⟩ := row_form oo
    try simp at ll
    have Oy1 := Lib.hid oo
    have Ly1 := Lib.hid ll
    have Uy1 := Lib.hid (CS.lt _ oo)
    have E := Lib.hid (Blk.grow B0.out g)
    clear B0
    have B0 := E
    clear E
    have E := Lib.hid (Blk.grow X0.out g)
    clear X0
    have X0 := E
    clear E
    have E := Lib.hid (own_growK _ Owr0.out g)
    clear Owr0
    have Owr0 := E
    clear E
    have E := Lib.hid (AggO.grow Ox0.out g)
    clear Ox0
    have Ox0 := E
    clear E
    have E := Lib.hid (own_growK _ Ox1.out g)
    clear Ox1
    have Ox1 := E
    clear E
    have E := Lib.hid (own_growK _ Ogr0.out g)
    clear Ogr0
    have Ogr0 := E
    clear E
    have z11 := World.grownBy.size g
    try simp at z11
    have E := Lib.hid (gbT G.out g)
    clear G
    have G := E
    clear E
    clear g oo ll
    have k_B0_0 := B0.out.cell 0
    have k_B0_1 := B0.out.cell 1
    have k_X0_0 := X0.out.cell 0
    have k_X0_1 := X0.out.cell 1
    simp at k_B0_0 k_B0_1 k_X0_0 k_X0_1
    go_wp2_with fail
    clear k_B0_0 k_B0_1 k_X0_0 k_X0_1
    refine (eqIntS_k es _ _ _ (CS.toRd _ Ox1.out) (CS.toRd _ Oy1.out) HZ1.out).mono ?_
    rintro e y ⟨rfl, g⟩
    have E := Lib.hid (Blk.grow B0.out g)
    clear B0
    have B0 := E
    clear E
    have E := Lib.hid (Blk.grow X0.out g)
    clear X0
    have X0 := E
    clear E
    have E := Lib.hid (own_growK _ Owr0.out g)
    clear Owr0
    have Owr0 := E
    clear E
    have E := Lib.hid (AggO.grow Ox0.out g)
    clear Ox0
    have Ox0 := E
    clear E
    have E := Lib.hid (own_growK _ Ox1.out g)
    clear Ox1
    have Ox1 := E
    clear E
    have E := Lib.hid (own_growK _ Ogr0.out g)
    clear Ogr0
    have Ogr0 := E
    clear E
    have E := Lib.hid (own_growK _ Oy1.out g)
    clear Oy1
    have Oy1 := E
    clear E
    have z12 := World.grownBy.size g
    try simp at z12
    have E := Lib.hid (gbT G.out g)
    clear G
    have G := E
    clear E
    clear g
    clear Oy1 Ly1 Uy1
    have k_B0_0 := B0.out.cell 0
    have k_B0_1 := B0.out.cell 1
    have k_X0_0 := X0.out.cell 0
    have k_X0_1 := X0.out.cell 1
    simp at k_B0_0 k_B0_1 k_X0_0 k_X0_1
    go_wp2_with fail
    clear k_B0_0 k_B0_1 k_X0_0 k_X0_1
    refine (markCircuit_k m _ Fx0 1 _ Ox0.out HZ0.out (by omega) (by omega)).mono ?_
    rintro e y ⟨rfl, oo, cc⟩
    clear Ox0
    have Ox0 := Lib.hid oo
    clear oo
    have E := Lib.hid (blk_chg B0.out cc (fun hg => by have h1 := Lx0.out _ hg; have h2 := Ux0.out _ hg; omega))
    clear B0
    have B0 := E
    clear E
    have E := Lib.hid (blk_chg X0.out cc (fun hg => by have h1 := Lx0.out _ hg; have h2 := Ux0.out _ hg; omega))
    clear X0
    have X0 := E
    clear E
    have E := Lib.hid (own_chgK _ Owr0.out cc (fun g hg hx => by have h1 := Lwr0.out g hg; have h2 := Uwr0.out g hg; have h3 := Lx0.out g hx; have h4 := Ux0.out g hx; omega))
    clear Owr0
    have Owr0 := E
    clear E
    have E := Lib.hid (own_chgK _ Ox1.out cc (fun g hg hx => by have h1 := Lx1.out g hg; have h2 := Ux1.out g hg; have h3 := Lx0.out g hx; have h4 := Ux0.out g hx; omega))
    clear Ox1
    have Ox1 := E
    clear E
    have E := Lib.hid (own_chgK _ Ogr0.out cc (fun g hg hx => by have h1 := Lgr0.out g hg; have h2 := Ugr0.out g hg; have h3 := Lx0.out g hx; have h4 := Ux0.out g hx; omega))
    clear Ogr0
    have Ogr0 := E
    clear E
    have z13 := Chg.size cc
    try simp at z13
    have E := Lib.hid (Chg.new G.out cc (fun g hg => by have h1 := Lx0.out g hg; omega))
    clear G
    have G := E
    clear E
    clear cc
    have k_B0_0 := B0.out.cell 0
    have k_B0_1 := B0.out.cell 1
    have k_X0_0 := X0.out.cell 0
    have k_X0_1 := X0.out.cell 1
    simp at k_B0_0 k_B0_1 k_X0_0 k_X0_1
    go_wp2_with fail
    clear k_B0_0 k_B0_1 k_X0_0 k_X0_1
    refine (markIntS_k es _ Fx1 (m.cnt 1) _ Ox1.out HZ1.out (by omega) (by omega)).mono ?_
    rintro e y ⟨rfl, oo, cc⟩
    clear Ox1
    have Ox1 := Lib.hid oo
    clear oo
    have E := Lib.hid (blk_chg B0.out cc (fun hg => by have h1 := Lx1.out _ hg; have h2 := Ux1.out _ hg; omega))
    clear B0
    have B0 := E
    clear E
    have E := Lib.hid (blk_chg X0.out cc (fun hg => by have h1 := Lx1.out _ hg; have h2 := Ux1.out _ hg; omega))
    clear X0
    have X0 := E
    clear E
    have E := Lib.hid (own_chgK _ Owr0.out cc (fun g hg hx => by have h1 := Lwr0.out g hg; have h2 := Uwr0.out g hg; have h3 := Lx1.out g hx; have h4 := Ux1.out g hx; omega))
    clear Owr0
    have Owr0 := E
    clear E
    have E := Lib.hid (AggO.chg Ox0.out cc (fun g hg hx => by have h1 := Lx0.out g hg; have h2 := Ux0.out g hg; have h3 := Lx1.out g hx; have h4 := Ux1.out g hx; omega))
    clear Ox0
    have Ox0 := E
    clear E
    have E := Lib.hid (own_chgK _ Ogr0.out cc (fun g hg hx => by have h1 := Lgr0.out g hg; have h2 := Ugr0.out g hg; have h3 := Lx1.out g hx; have h4 := Ux1.out g hx; omega))
    clear Ogr0
    have Ogr0 := E
    clear E
    have z14 := Chg.size cc
    try simp at z14
    have E := Lib.hid (Chg.new G.out cc (fun g hg => by have h1 := Lx1.out g hg; omega))
    clear G
    have G := E
    clear E
    clear cc
    clear Ox0 Lx0 Ux0
    clear Ox1 Lx1 Ux1
    have kp : ¬ (m.cnt 1) + es.length < 0 := by omega
    have k_B0_0 := B0.out.cell 0
    have k_B0_1 := B0.out.cell 1
    have k_X0_0 := X0.out.cell 0
    have k_X0_1 := X0.out.cell 1
    simp at k_B0_0 k_B0_1 k_X0_0 k_X0_1
    go_wp2_with fail
    clear k_B0_0 k_B0_1 k_X0_0 k_X0_1
    refine (eqPublicS_z r0 _ _ _ (CS.toRd _ Ogr0.out) (CS.toRd _ Owr0.out) HL0.out).mono ?_
    rintro e y ⟨rfl, g⟩
    have E := Lib.hid (Blk.grow B0.out g)
    clear B0
    have B0 := E
    clear E
    have E := Lib.hid (Blk.grow X0.out g)
    clear X0
    have X0 := E
    clear E
    have E := Lib.hid (own_growK _ Owr0.out g)
    clear Owr0
    have Owr0 := E
    clear E
    have E := Lib.hid (own_growK _ Ogr0.out g)
    clear Ogr0
    have Ogr0 := E
    clear E
    have z15 := World.grownBy.size g
    try simp at z15
    have E := Lib.hid (gbT G.out g)
    clear G
    have G := E
    clear E
    clear g
    have k_B0_0 := B0.out.cell 0
    have k_B0_1 := B0.out.cell 1
    have k_X0_0 := X0.out.cell 0
    have k_X0_1 := X0.out.cell 1
    simp at k_B0_0 k_B0_1 k_X0_0 k_X0_1
    go_wp2_with fail
    clear k_B0_0 k_B0_1 k_X0_0 k_X0_1
    refine (markPublicS_z r0 _ Fgr0 (1) _ Ogr0.out HL0.out (by omega) (by omega)).mono ?_
    rintro e y ⟨rfl, oo, cc⟩
    clear Ogr0
    have Ogr0 := Lib.hid oo
    clear oo
    have E := Lib.hid (blk_chg B0.out cc (fun hg => by have h1 := Lgr0.out _ hg; have h2 := Ugr0.out _ hg; omega))
    clear B0
    have B0 := E
    clear E
    have E := Lib.hid (blk_chg X0.out cc (fun hg => by have h1 := Lgr0.out _ hg; have h2 := Ugr0.out _ hg; omega))
    clear X0
    have X0 := E
    clear E
    have E := Lib.hid (own_chgK _ Owr0.out cc (fun g hg hx => by have h1 := Lwr0.out g hg; have h2 := Uwr0.out g hg; have h3 := Lgr0.out g hx; have h4 := Ugr0.out g hx; omega))
    clear Owr0
    have Owr0 := E
    clear E
    have z16 := Chg.size cc
    try simp at z16
    have E := Lib.hid (Chg.new G.out cc (fun g hg => by have h1 := Lgr0.out g hg; omega))
    clear G
    have G := E
    clear E
    clear cc
    have k_B0_0 := B0.out.cell 0
    have k_B0_1 := B0.out.cell 1
    have k_X0_0 := X0.out.cell 0
    have k_X0_1 := X0.out.cell 1
    simp at k_B0_0 k_B0_1 k_X0_0 k_X0_1
    go_wp2_with fail
    clear k_B0_0 k_B0_1 k_X0_0 k_X0_1
    refine (heldPublicS_z r0 _ (1) _ (CS.toRd _ Ogr0.out) HL0.out (by omega) (by omega)).mono ?_
    rintro e y ⟨rfl, g⟩
    have E := Lib.hid (Blk.grow B0.out g)
    clear B0
    have B0 := E
    clear E
    have E := Lib.hid (Blk.grow X0.out g)
    clear X0
    have X0 := E
    clear E
    have E := Lib.hid (own_growK _ Owr0.out g)
    clear Owr0
    have Owr0 := E
    clear E
    have E := Lib.hid (own_growK _ Ogr0.out g)
    clear Ogr0
    have Ogr0 := E
    clear E
    have z17 := World.grownBy.size g
    try simp at z17
    have E := Lib.hid (gbT G.out g)
    clear G
    have G := E
    clear E
    clear g
    have khr0 : ¬ 1 + (puS r0 r0.length : Nat) < 0 := by omega
    have k_B0_0 := B0.out.cell 0
    have k_B0_1 := B0.out.cell 1
    have k_X0_0 := X0.out.cell 0
    have k_X0_1 := X0.out.cell 1
    simp at k_B0_0 k_B0_1 k_X0_0 k_X0_1
    go_wp2_with fail
    clear k_B0_0 k_B0_1 k_X0_0 k_X0_1
    clear khr0
    refine (toCircuit_k m _ _ (AggR.grow HA0.out G.out) HZ0.out).mono ?_
    rintro e y ⟨uu, Fh0, rfl, oo, ll, g⟩
    obtain ⟨ah0_0, nh0_0, sh0_0, ah0_1, nh0_1, sh0_1, rfl⟩ := ccircuit_oform oo
    try simp at ll
    have Oh0 := Lib.hid oo
    have Lh0 := Lib.hid ll
    have Uh0 := Lib.hid (AggO.lt oo)
    have E := Lib.hid (Blk.grow B0.out g)
    clear B0
    have B0 := E
    clear E
    have E := Lib.hid (Blk.grow X0.out g)
    clear X0
    have X0 := E
    clear E
    have E := Lib.hid (own_growK _ Owr0.out g)
    clear Owr0
    have Owr0 := E
    clear E
    have E := Lib.hid (own_growK _ Ogr0.out g)
    clear Ogr0
    have Ogr0 := E
    clear E
    have z18 := World.grownBy.size g
    try simp at z18
    have E := Lib.hid (gbT G.out g)
    clear G
    have G := E
    clear E
    clear g oo ll
    have k_B0_0 := B0.out.cell 0
    have k_B0_1 := B0.out.cell 1
    have k_X0_0 := X0.out.cell 0
    have k_X0_1 := X0.out.cell 1
    simp at k_B0_0 k_B0_1 k_X0_0 k_X0_1
    go_wp2_with fail
    clear k_B0_0 k_B0_1 k_X0_0 k_X0_1
    refine (toIntS_k es _ _ (CS.grow _ HA1.out G.out) HZ1.out).mono ?_
    rintro e y ⟨uu, Fh1, rfl, oo, ll, g⟩
    obtain ⟨ah1, nh1, sh1, rfl⟩ := row_form oo
    try simp at ll
    have Oh1 := Lib.hid oo
    have Lh1 := Lib.hid ll
    have Uh1 := Lib.hid (CS.lt _ oo)
    have E := Lib.hid (Blk.grow B0.out g)
    clear B0
    have B0 := E
    clear E
    have E := Lib.hid (Blk.grow X0.out g)
    clear X0
    have X0 := E
    clear E
    have E := Lib.hid (own_growK _ Owr0.out g)
    clear Owr0
    have Owr0 := E
    clear E
    have E := Lib.hid (own_growK _ Ogr0.out g)
    clear Ogr0
    have Ogr0 := E
    clear E
    have E := Lib.hid (AggO.grow Oh0.out g)
    clear Oh0
    have Oh0 := E
    clear E
    have z19 := World.grownBy.size g
    try simp at z19
    have E := Lib.hid (gbT G.out g)
    clear G
    have G := E
    clear E
    clear g oo ll
    have k_B0_0 := B0.out.cell 0
    have k_B0_1 := B0.out.cell 1
    have k_X0_0 := X0.out.cell 0
    have k_X0_1 := X0.out.cell 1
    simp at k_B0_0 k_B0_1 k_X0_0 k_X0_1
    go_wp2_with fail
    clear k_B0_0 k_B0_1 k_X0_0 k_X0_1
    refine (HI.out _ _ _ Oh0.out.rd (CS.toRd _ Oh1.out)).mono ?_
    rintro e y ⟨Vhr0, Fhr0, rfl, ohr0, lhr0, g⟩
    obtain ⟨ahr0, nhr0, shr0, rfl⟩ := row_form ohr0
    try simp at lhr0
    have Ohr0 := Lib.hid ohr0
    have Lhr0 := Lib.hid lhr0
    have Uhr0 := Lib.hid (CS.lt _ ohr0)
    have E := Lib.hid (Blk.grow B0.out g)
    clear B0
    have B0 := E
    clear E
    have E := Lib.hid (Blk.grow X0.out g)
    clear X0
    have X0 := E
    clear E
    have E := Lib.hid (own_growK _ Owr0.out g)
    clear Owr0
    have Owr0 := E
    clear E
    have E := Lib.hid (own_growK _ Ogr0.out g)
    clear Ogr0
    have Ogr0 := E
    clear E
    have E := Lib.hid (AggO.grow Oh0.out g)
    clear Oh0
    have Oh0 := E
    clear E
    have E := Lib.hid (own_growK _ Oh1.out g)
    clear Oh1
    have Oh1 := E
    clear E
    have z20 := World.grownBy.size g
    try simp at z20
    have E := Lib.hid (gbT G.out g)
    clear G
    have G := E
    clear E
    clear g ohr0 lhr0
    clear Oh0 Lh0 Uh0
    clear Oh1 Lh1 Uh1
    have k_B0_0 := B0.out.cell 0
    have k_B0_1 := B0.out.cell 1
    have k_X0_0 := X0.out.cell 0
    have k_X0_1 := X0.out.cell 1
    simp at k_B0_0 k_B0_1 k_X0_0 k_X0_1
    go_wp2_with fail
    clear k_B0_0 k_B0_1 k_X0_0 k_X0_1
    refine (eqPublicS_z r0 _ _ _ (CS.toRd _ Ohr0.out) (CS.toRd _ Owr0.out) HL0.out).mono ?_
    rintro e y ⟨rfl, g⟩
    have E := Lib.hid (Blk.grow B0.out g)
    clear B0
    have B0 := E
    clear E
    have E := Lib.hid (Blk.grow X0.out g)
    clear X0
    have X0 := E
    clear E
    have E := Lib.hid (own_growK _ Owr0.out g)
    clear Owr0
    have Owr0 := E
    clear E
    have E := Lib.hid (own_growK _ Ogr0.out g)
    clear Ogr0
    have Ogr0 := E
    clear E
    have E := Lib.hid (own_growK _ Ohr0.out g)
    clear Ohr0
    have Ohr0 := E
    clear E
    have z21 := World.grownBy.size g
    try simp at z21
    have E := Lib.hid (gbT G.out g)
    clear G
    have G := E
    clear E
    clear g
    have k_B0_0 := B0.out.cell 0
    have k_B0_1 := B0.out.cell 1
    have k_X0_0 := X0.out.cell 0
    have k_X0_1 := X0.out.cell 1
    simp at k_B0_0 k_B0_1 k_X0_0 k_X0_1
    go_wp2_with fail
    clear k_B0_0 k_B0_1 k_X0_0 k_X0_1
    refine (heldPublicS_z r0 _ (1) _ (CS.toRd _ Ogr0.out) HL0.out (by omega) (by omega)).mono ?_
    rintro e y ⟨rfl, g⟩
    have E := Lib.hid (Blk.grow B0.out g)
    clear B0
    have B0 := E
    clear E
    have E := Lib.hid (Blk.grow X0.out g)
    clear X0
    have X0 := E
    clear E
    have E := Lib.hid (own_growK _ Owr0.out g)
    clear Owr0
    have Owr0 := E
    clear E
    have E := Lib.hid (own_growK _ Ogr0.out g)
    clear Ogr0
    have Ogr0 := E
    clear E
    have E := Lib.hid (own_growK _ Ohr0.out g)
    clear Ohr0
    have Ohr0 := E
    clear E
    have z22 := World.grownBy.size g
    try simp at z22
    have E := Lib.hid (gbT G.out g)
    clear G
    have G := E
    clear E
    clear g
    have khr0 : ¬ 1 + (puS r0 r0.length : Nat) < 0 := by omega
    have k_B0_0 := B0.out.cell 0
    have k_B0_1 := B0.out.cell 1
    have k_X0_0 := X0.out.cell 0
    have k_X0_1 := X0.out.cell 1
    simp at k_B0_0 k_B0_1 k_X0_0 k_X0_1
    go_wp2_with fail
    clear k_B0_0 k_B0_1 k_X0_0 k_X0_1
    clear khr0
    go_ret
    exact ⟨rfl, G.out⟩
theorem cpsR_fit (m : CM) (ss : List Int) (hq : m.outs.length ≤ 1048576) : fitP (cpsR m ss) := by
  have hp : ∀ x ∈ cpsR m ss, x.ts.length ≤ 12000 ∧ x.cs.length ≤ 6000 ∧ x.ds.length ≤ 1048576 := by
    intro x hx
    by_cases ask : askB m ss
    · rw [cpsR_yes ask] at hx
      obtain ⟨s, _, rfl⟩ := List.mem_map.1 hx
      have hg := ask.1.few
      refine ⟨?_, ?_, ?_⟩
      · show (garT s.toNat m.gt m.gt.length).length ≤ _
        have := garT_len s.toNat m.gt m.gt.length (Nat.le_refl _)
        have := gts_le m.gt 4 m.gt.length
        omega
      · show (conTo s.toNat m.gt (garZ s.toNat m.gt m.gt.length) m.gt.length).length ≤ _
        have := conTo_le s.toNat m.gt (garZ s.toNat m.gt m.gt.length) m.gt.length
        omega
      · show (decTo m (garZ s.toNat m.gt m.gt.length) m.outs.length).length ≤ _
        rw [decTo_len m _ _ (Nat.le_refl _)]
        omega
    · rw [cpsR_no ask] at hx
      cases hx
  have hl : (cpsR m ss).length ≤ 8 := by
    by_cases ask : askB m ss
    · rw [cpsR_yes ask, copN_len]; exact ask.2.1
    · rw [cpsR_no ask]; simp
  refine ⟨by omega, fun x hx => ?_, ?_⟩
  · obtain ⟨h1, h2, h3⟩ := hp x hx
    exact ⟨by omega, by omega, h3⟩
  · have hk : ∀ k, k ≤ (cpsR m ss).length → puS (cpsR m ss) k ≤ k * 1066576 := by
      intro k
      induction k with
      | zero => intro _; rw [puS_zero]; exact Nat.zero_le _
      | succ k ih =>
        intro hk
        have h1 := ih (by omega)
        have h2 := hp _ (List.getElem_mem (show k < (cpsR m ss).length by omega))
        rw [puS_succ _ k _ (List.getElem?_eq_getElem (show k < (cpsR m ss).length by omega))]
        unfold PbM.sz
        omega
    have := hk _ (Nat.le_refl _)
    omega
theorem specCopiesNew_k (m : CM) (es : List Int) (v v1 : Value) (w : World) (h : AggR w (ccircuit m) v) (k : (cints es).rd w v1) (hz : m.sz ≤ 1048576) :
    Calls Try.prog 27 #[v, v1] w fun e w' => ∃ V F, e = .returned V ∧ (cpubs (cpsR m es)).own w' F V ∧ (∀ g ∈ F, w.heap.size ≤ g) ∧ w.grownBy w' none :=
  (specCopiesNew_c m es v v1 w h k (by unfold CM.sz at hz; omega)).mono fun e w' ⟨V, h1, ⟨F, h2, h3⟩, h4⟩ => ⟨V, F, h1, h2, h3, h4⟩
theorem implCopiesNew_k (m : CM) (es : List Int) (v v1 : Value) (w : World) (h : AggR w (ccircuit m) v) (k : (cints es).rd w v1) (hz : m.sz ≤ 1048576) :
    Calls Try.prog 30 #[v, v1] w fun e w' => ∃ V F, e = .returned V ∧ (cpubs (cpsR m es)).own w' F V ∧ (∀ g ∈ F, w.heap.size ≤ g) ∧ w.grownBy w' none :=
  (implCopiesNew_c m es v v1 w h k (by unfold CM.sz at hz; omega)).mono fun e w' ⟨V, h1, ⟨F, h2, h3⟩, h4⟩ => ⟨V, F, h1, h2, h3, h4⟩
set_option maxRecDepth 100000 in
theorem FnExactCopiesNew.walk (w : World) (m : CM) (v : Value) (h : AggR w (ccircuit m) v) (wf : m.wf) (A : Option Addr) (n c : Nat) (es : List Int) (hes : IntsK .i64 w A n es) (hm : n ≤ c) (hc : c ≤ maxLen) :
    Calls Try.prog 6 #[v, .slice A n c] w fun e w' => e = .returned (.bool true) ∧ w.grownBy w' none := by
  have hl : es.length = n := Ints.len hes.ints
  have k : (cints es).rd w (.slice A n c) := cints_mk hes.ints hm hc
  unfold maxLen at hc
  by_cases hb : n ≤ 1048576
  · by_cases hz : m.sz ≤ 1048576
    · exact FnExactCopiesNew.core m es _ w v _ h k hz (by omega) (cpsR_fit m es (by unfold CM.sz at hz; omega)) (fun w v v1 h k => specCopiesNew_k m es v v1 w h k hz) (fun w v v1 h k => implCopiesNew_k m es v v1 w h k hz)
    · have HZ := Lib.hid (szO_no (Nat.lt_of_not_le hz))
      have HA := Lib.hid h
      obtain ⟨u0, u1, rfl, _, _⟩ := ccircuit_open h
      have hb' : ¬ (1048576 : Int) < (n : Int) := by omega
      clear h hz hes k hl
      go_enter Try.func6, Try.ntmps6
      go_wp2_with fail
      refine (szCircuit_k m _ 1048576 _ (AggR.grow HA.out (gbA (gbR w none) _)) (by omega)).mono ?_
      rintro e y ⟨rfl, g⟩
      rw [HZ.out]
      have G := Lib.hid (gbT (gbA (gbR w none) _) g)
      clear g
      go_wp2_with fail
      go_ret
      exact ⟨rfl, G.out⟩
  · obtain ⟨u0, u1, rfl, _, _⟩ := ccircuit_open h
    have hb' : (1048576 : Int) < (n : Int) := by omega
    clear h hes k hl
    go_enter Try.func6, Try.ntmps6
    go_wp2_with fail
    go_ret
    exact ⟨rfl, gbA (gbR w none) _⟩
end Go.Proofs.Ythdfkiaoahpjpaa
