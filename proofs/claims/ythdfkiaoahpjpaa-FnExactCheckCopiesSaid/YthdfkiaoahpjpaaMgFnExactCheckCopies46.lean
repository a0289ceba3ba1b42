/-
  Exact laws (cores printed by wip/gen_exact.py).
-/
import Derived.Test.YthdfkiaoahpjpaaMgFnExactCheckCopies36
import Derived.Test.YthdfkiaoahpjpaaMgFnExactCheckCopies43
import Derived.Test.YthdfkiaoahpjpaaMgFnExactCheckCopies45
namespace Go.Proofs.Ythdfkiaoahpjpaa
open Go.RowKit
set_option linter.unusedVariables false
set_option linter.unusedSimpArgs false
set_option maxRecDepth 100000 in
set_option maxHeartbeats 4000000 in
theorem FnExactCheckCopies.core (m : CM) (cs : List PbM) (es : List Int) (bs : List Bool) (r0 : Int) (w : World) (v0 v1 v2 v3 : Value) (ha0 : AggR w (ccircuit m) v0) (ha1 : (cpubs cs).rd w v1) (ha2 : (cints es).rd w v2) (ha3 : (cbools bs).rd w v3) (hz0 : m.sz ≤ 1048576) (hz1 : szP cs ≤ 1048576 - m.sz) (hz2 : es.length ≤ 1048576) (hz3 : bs.length ≤ 1048576)
    (hs : ∀ (w : World) (v0 v1 v2 v3 : Value), AggR w (ccircuit m) v0 → (cpubs cs).rd w v1 → (cints es).rd w v2 → (cbools bs).rd w v3 → Calls Try.prog 39 #[v0, v1, v2, v3] w fun e w' => e = .returned (.int .i64 r0) ∧ w.grownBy w' none)
    (hi : ∀ (w : World) (v0 v1 v2 v3 : Value), AggR w (ccircuit m) v0 → (cpubs cs).rd w v1 → (cints es).rd w v2 → (cbools bs).rd w v3 → Calls Try.prog 42 #[v0, v1, v2, v3] w fun e w' => e = .returned (.int .i64 r0) ∧ w.grownBy w' none) :
    Calls Try.prog 7 #[v0, v1, v2, v3] w fun e w' => e = .returned (.bool true) ∧ w.grownBy w' none := by
  have HS := Lib.hid hs
  have HI := Lib.hid hi
  obtain ⟨p0_0, p0_1, rfl, _, _⟩ := ccircuit_open (m := m) ha0
  have kc0 : 1 ≤ m.cnt 1 ∧ m.cnt 1 ≤ 16777216 := by
    unfold CM.cnt
    unfold CM.sz at hz0
    omega
  have HA0 := Lib.hid ha0
  have HZ0 := Lib.hid hz0
  obtain ⟨pa1, pc1, rfl, _, _⟩ := cps_rd ha1
  have HF1 : Hid (fitP cs) := Lib.hid (fitP_of (by omega))
  have HA1 := Lib.hid ha1
  have HZ1 := Lib.hid hz1
  obtain ⟨pa2, pc2, rfl, _, _, _⟩ := cints_rd ha2
  have hb2 : ¬ (1048576 : Int) < (es.length : Int) := by omega
  have HA2 := Lib.hid ha2
  have HZ2 := Lib.hid hz2
  obtain ⟨pa3, pc3, rfl, _, _, _⟩ := cbools_rd ha3
  have hb3 : ¬ (1048576 : Int) < (bs.length : Int) := by omega
  have HA3 := Lib.hid ha3
  have HZ3 := Lib.hid hz3
  clear hs hi ha0 ha1 ha2 ha3 hz0 hz1 hz2 hz3
  have B0 := Lib.hid (Blk.new w 44 #[p0_0, p0_1])
  have G := Lib.hid (gbA (gbR w none) (.cells #[p0_0, p0_1] 44))
  go_enter Try.func7, Try.ntmps7
  have z0 : w.heap.size ≤ w.heap.size := Nat.le_refl _
  have k1 : ¬ ((1048576 - m.sz : Nat) : Int) < 0 := by omega
  have k_B0_0 := B0.out.cell 0
  have k_B0_1 := B0.out.cell 1
  simp at k_B0_0 k_B0_1
  go_wp2_with fail
  clear k_B0_0 k_B0_1
  refine (szCircuit_k m _ 1048576 _ (AggR.grow HA0.out G.out) (by omega)).mono ?_
  rintro e y ⟨rfl, g⟩
  rw [szO_yes HZ0.out]
  have E := Lib.hid (Blk.grow B0.out g)
  clear B0
  have B0 := E
  clear E
  have z1 := World.grownBy.size g
  try simp at z1
  have E := Lib.hid (gbT G.out g)
  clear G
  have G := E
  clear E
  clear g k1
  have k1 : ¬ ((1048576 - m.sz - szP cs : Nat) : Int) < 0 := by omega
  have k0 : ¬ ((1048576 - m.sz : Nat) : Int) < 0 := by omega
  have k_B0_0 := B0.out.cell 0
  have k_B0_1 := B0.out.cell 1
  simp at k_B0_0 k_B0_1
  go_wp2_with fail
  clear k_B0_0 k_B0_1
  refine (szPublicS_z cs _ (1048576 - m.sz) _ (CS.grow _ HA1.out G.out) (by omega)).mono ?_
  rintro e y ⟨rfl, g⟩
  rw [szO_yes HZ1.out]
  have E := Lib.hid (Blk.grow B0.out g)
  clear B0
  have B0 := E
  clear E
  have z2 := World.grownBy.size g
  try simp at z2
  have E := Lib.hid (gbT G.out g)
  clear G
  have G := E
  clear E
  clear g k0
  have k_B0_0 := B0.out.cell 0
  have k_B0_1 := B0.out.cell 1
  simp at k_B0_0 k_B0_1
  go_wp2_with fail
  clear k_B0_0 k_B0_1
  refine (toCircuit_k m _ _ (AggR.grow HA0.out G.out) HZ0.out).mono ?_
  rintro e y ⟨uu, Fw0, rfl, oo, ll, g⟩
  obtain ⟨aw0_0, nw0_0, sw0_0, aw0_1, nw0_1, sw0_1, rfl⟩ := ccircuit_oform oo
  try simp at ll
  have Ow0 := Lib.hid oo
  have Lw0 := Lib.hid ll
  have Uw0 := Lib.hid (AggO.lt oo)
  have E := Lib.hid (Blk.grow B0.out g)
  clear B0
  have B0 := E
  clear E
  have z3 := World.grownBy.size g
  try simp at z3
  have E := Lib.hid (gbT G.out g)
  clear G
  have G := E
  clear E
  clear g oo ll
  have k_B0_0 := B0.out.cell 0
  have k_B0_1 := B0.out.cell 1
  simp at k_B0_0 k_B0_1
  go_wp2_with fail
  clear k_B0_0 k_B0_1
  refine (toPublicS_z cs _ _ (CS.grow _ HA1.out G.out) HF1.out).mono ?_
  rintro e y ⟨uu, Fw1, rfl, oo, ll, g⟩
  obtain ⟨aw1, nw1, sw1, rfl⟩ := row_form oo
  try simp at ll
  have Ow1 := Lib.hid oo
  have Lw1 := Lib.hid ll
  have Uw1 := Lib.hid (CS.lt _ oo)
  have E := Lib.hid (Blk.grow B0.out g)
  clear B0
  have B0 := E
  clear E
  have E := Lib.hid (AggO.grow Ow0.out g)
  clear Ow0
  have Ow0 := E
  clear E
  have z4 := World.grownBy.size g
  try simp at z4
  have E := Lib.hid (gbT G.out g)
  clear G
  have G := E
  clear E
  clear g oo ll
  have k_B0_0 := B0.out.cell 0
  have k_B0_1 := B0.out.cell 1
  simp at k_B0_0 k_B0_1
  go_wp2_with fail
  clear k_B0_0 k_B0_1
  refine (toIntS_k es _ _ (CS.grow _ HA2.out G.out) HZ2.out).mono ?_
  rintro e y ⟨uu, Fw2, rfl, oo, ll, g⟩
  obtain ⟨aw2, nw2, sw2, rfl⟩ := row_form oo
  try simp at ll
  have Ow2 := Lib.hid oo
  have Lw2 := Lib.hid ll
  have Uw2 := Lib.hid (CS.lt _ oo)
  have E := Lib.hid (Blk.grow B0.out g)
  clear B0
  have B0 := E
  clear E
  have E := Lib.hid (AggO.grow Ow0.out g)
  clear Ow0
  have Ow0 := E
  clear E
  have E := Lib.hid (own_growK _ Ow1.out g)
  clear Ow1
  have Ow1 := E
  clear E
  have z5 := World.grownBy.size g
  try simp at z5
  have E := Lib.hid (gbT G.out g)
  clear G
  have G := E
  clear E
  clear g oo ll
  have k_B0_0 := B0.out.cell 0
  have k_B0_1 := B0.out.cell 1
  simp at k_B0_0 k_B0_1
  go_wp2_with fail
  clear k_B0_0 k_B0_1
  refine (toBoolS_k bs _ _ (CS.grow _ HA3.out G.out) HZ3.out).mono ?_
  rintro e y ⟨uu, Fw3, rfl, oo, ll, g⟩
  obtain ⟨aw3, nw3, sw3, rfl⟩ := row_form oo
  try simp at ll
  have Ow3 := Lib.hid oo
  have Lw3 := Lib.hid ll
  have Uw3 := Lib.hid (CS.lt _ oo)
  have E := Lib.hid (Blk.grow B0.out g)
  clear B0
  have B0 := E
  clear E
  have E := Lib.hid (AggO.grow Ow0.out g)
  clear Ow0
  have Ow0 := E
  clear E
  have E := Lib.hid (own_growK _ Ow1.out g)
  clear Ow1
  have Ow1 := E
  clear E
  have E := Lib.hid (own_growK _ Ow2.out g)
  clear Ow2
  have Ow2 := E
  clear E
  have z6 := World.grownBy.size g
  try simp at z6
  have E := Lib.hid (gbT G.out g)
  clear G
  have G := E
  clear E
  clear g oo ll
  have k_B0_0 := B0.out.cell 0
  have k_B0_1 := B0.out.cell 1
  simp at k_B0_0 k_B0_1
  go_wp2_with fail
  clear k_B0_0 k_B0_1
  refine (HS.out _ _ _ _ _ Ow0.out.rd (CS.toRd _ Ow1.out) (CS.toRd _ Ow2.out) (CS.toRd _ Ow3.out)).mono ?_
  rintro e y ⟨rfl, g⟩
  have E := Lib.hid (Blk.grow B0.out g)
  clear B0
  have B0 := E
  clear E
  have E := Lib.hid (AggO.grow Ow0.out g)
  clear Ow0
  have Ow0 := E
  clear E
  have E := Lib.hid (own_growK _ Ow1.out g)
  clear Ow1
  have Ow1 := E
  clear E
  have E := Lib.hid (own_growK _ Ow2.out g)
  clear Ow2
  have Ow2 := E
  clear E
  have E := Lib.hid (own_growK _ Ow3.out g)
  clear Ow3
  have Ow3 := E
  clear E
  have z7 := World.grownBy.size g
  try simp at z7
  have E := Lib.hid (gbT G.out g)
  clear G
  have G := E
  clear E
  clear g
  clear Ow0 Lw0 Uw0
  clear Ow1 Lw1 Uw1
  clear Ow2 Lw2 Uw2
  clear Ow3 Lw3 Uw3
  have k_B0_0 := B0.out.cell 0
  have k_B0_1 := B0.out.cell 1
  simp at k_B0_0 k_B0_1
  go_wp2_with fail
  clear k_B0_0 k_B0_1
  refine (toCircuit_k m _ _ (AggR.grow HA0.out G.out) HZ0.out).mono ?_
  rintro e y ⟨uu, Fx0, rfl, oo, ll, g⟩
  obtain ⟨ax0_0, nx0_0, sx0_0, ax0_1, nx0_1, sx0_1, rfl⟩ := ccircuit_oform oo
  try simp at ll
  have Ox0 := Lib.hid oo
  have Lx0 := Lib.hid ll
  have Ux0 := Lib.hid (AggO.lt oo)
  have E := Lib.hid (Blk.grow B0.out g)
  clear B0
  have B0 := E
  clear E
  have z8 := World.grownBy.size g
  try simp at z8
  have E := Lib.hid (gbT G.out g)
  clear G
  have G := E
  clear E
  clear g oo ll
  have X := Lib.hid (Blk.new y 28 #[.slice ax0_0 nx0_0 sx0_0, .slice ax0_1 nx0_1 sx0_1])
  have ga : y.grownBy (y.alloc (.cells #[.slice ax0_0 nx0_0 sx0_0, .slice ax0_1 nx0_1 sx0_1] 28)) none := gbA (gbR y none) _
  have E := Lib.hid (Blk.grow B0.out ga)
  clear B0
  have B0 := E
  clear E
  have E := Lib.hid (AggO.grow Ox0.out ga)
  clear Ox0
  have Ox0 := E
  clear E
  have z9 := World.grownBy.size ga
  try simp at z9
  have E := Lib.hid (gbT G.out ga)
  clear G
  have G := E
  clear E
  clear ga
  have X0 := X
  clear X
  go_wp2_with fail
  refine (toPublicS_z cs _ _ (CS.grow _ HA1.out G.out) HF1.out).mono ?_
  rintro e y ⟨uu, Fx1, rfl, oo, ll, g⟩
  obtain ⟨ax1, nx1, sx1, rfl⟩ := row_form oo
  try simp at ll
  have Ox1 := Lib.hid oo
  have Lx1 := Lib.hid ll
  have Ux1 := Lib.hid (CS.lt _ oo)
  have E := Lib.hid (Blk.grow B0.out g)
  clear B0
  have B0 := E
  clear E
  have E := Lib.hid (Blk.grow X0.out g)
  clear X0
  have X0 := E
  clear E
  have E := Lib.hid (AggO.grow Ox0.out g)
  clear Ox0
  have Ox0 := E
  clear E
  have z10 := World.grownBy.size g
  try simp at z10
  have E := Lib.hid (gbT G.out g)
  clear G
  have G := E
  clear E
  clear g oo ll
  have k_B0_0 := B0.out.cell 0
  have k_B0_1 := B0.out.cell 1
  have k_X0_0 := X0.out.cell 0
  have k_X0_1 := X0.out.cell 1
  simp at k_B0_0 k_B0_1 k_X0_0 k_X0_1
  go_wp2_with fail
  clear k_B0_0 k_B0_1 k_X0_0 k_X0_1
  refine (toIntS_k es _ _ (CS.grow _ HA2.out G.out) HZ2.out).mono ?_
  rintro e y ⟨uu, Fx2, rfl, oo, ll, g⟩
  obtain ⟨ax2, nx2, sx2, rfl⟩ := row_form oo
  try simp at ll
  have Ox2 := Lib.hid oo
  have Lx2 := Lib.hid ll
  have Ux2 := Lib.hid (CS.lt _ oo)
  have E := Lib.hid (Blk.grow B0.out g)
  clear B0
  have B0 := E
  clear E
  have E := Lib.hid (Blk.grow X0.out g)
  clear X0
  have X0 := E
  clear E
  have E := Lib.hid (AggO.grow Ox0.out g)
  clear Ox0
  have Ox0 := E
  clear E
  have E := Lib.hid (own_growK _ Ox1.out g)
  clear Ox1
  have Ox1 := E
  clear E
  have z11 := World.grownBy.size g
  try simp at z11
  have E := Lib.hid (gbT G.out g)
  clear G
  have G := E
  clear E
  clear g oo ll
  have k_B0_0 := B0.out.cell 0
  have k_B0_1 := B0.out.cell 1
  have k_X0_0 := X0.out.cell 0
  have k_X0_1 := X0.out.cell 1
  simp at k_B0_0 k_B0_1 k_X0_0 k_X0_1
  go_wp2_with fail
  clear k_B0_0 k_B0_1 k_X0_0 k_X0_1
  refine (toBoolS_k bs _ _ (CS.grow _ HA3.out G.out) HZ3.out).mono ?_
  rintro e y ⟨uu, Fx3, rfl, oo, ll, g⟩
  obtain ⟨ax3, nx3, sx3, rfl⟩ := row_form oo
  try simp at ll
  have Ox3 := Lib.hid oo
  have Lx3 := Lib.hid ll
  have Ux3 := Lib.hid (CS.lt _ oo)
  have E := Lib.hid (Blk.grow B0.out g)
  clear B0
  have B0 := E
  clear E
  have E := Lib.hid (Blk.grow X0.out g)
  clear X0
  have X0 := E
  clear E
  have E := Lib.hid (AggO.grow Ox0.out g)
  clear Ox0
  have Ox0 := E
  clear E
  have E := Lib.hid (own_growK _ Ox1.out g)
  clear Ox1
  have Ox1 := E
  clear E
  have E := Lib.hid (own_growK _ Ox2.out g)
  clear Ox2
  have Ox2 := E
  clear E
  have z12 := World.grownBy.size g
  try simp at z12
  have E := Lib.hid (gbT G.out g)
  clear G
  have G := E
  clear E
  clear g oo ll
  have k_B0_0 := B0.out.cell 0
  have k_B0_1 := B0.out.cell 1
  have k_X0_0 := X0.out.cell 0
  have k_X0_1 := X0.out.cell 1
  simp at k_B0_0 k_B0_1 k_X0_0 k_X0_1
  go_wp2_with fail
  clear k_B0_0 k_B0_1 k_X0_0 k_X0_1
  refine (HI.out _ _ _ _ _ Ox0.out.rd (CS.toRd _ Ox1.out) (CS.toRd _ Ox2.out) (CS.toRd _ Ox3.out)).mono ?_
  rintro e y ⟨rfl, g⟩
  have E := Lib.hid (Blk.grow B0.out g)
  clear B0
  have B0 := E
  clear E
  have E := Lib.hid (Blk.grow X0.out g)
  clear X0
  have X0 := E
  clear E
  have E := Lib.hid (AggO.grow Ox0.out g)
  clear Ox0
  have Ox0 := E
  clear E
  have E := Lib.hid (own_growK _ Ox1.out g)
  clear Ox1
  have Ox1 := E
  clear E
  have E := Lib.hid (own_growK _ Ox2.out g)
  clear Ox2
  have Ox2 := E
  clear E
  have E := Lib.hid (own_growK _ Ox3.out g)
  clear Ox3
  have Ox3 := E
  clear E
  have z13 := World.grownBy.size g
  try simp at z13
  have E := Lib.hid (gbT G.out g)
  clear G
  have G := E
  clear E
  clear g
  have k_B0_0 := B0.out.cell 0
  have k_B0_1 := B0.out.cell 1
  have k_X0_0 := X0.out.cell 0
  have k_X0_1 := X0.out.cell 1
  simp at k_B0_0 k_B0_1 k_X0_0 k_X0_1
  go_wp2_with fail
  clear k_B0_0 k_B0_1 k_X0_0 k_X0_1
  refine region_grow [isV (.agg #[.slice ax0_0 nx0_0 sx0_0, .slice ax0_1 nx0_1 sx0_1]), isV (.agg #[p0_0, p0_1]), fun v w => AggR w (ccircuit m) v, isV (.bool true), isV (.bool false)] (by kernel_rfl) (by kernel_rfl) (by kernel_rfl) (by simp only [stables, List.mem_cons, List.not_mem_nil, or_false, forall_eq_or_imp, forall_eq]; exact ⟨isV_st _, isV_st _, fun _ _ _ h hg => AggR.grow h hg, isV_st _, isV_st _⟩) ?_ ?_
  · simp only [hops, and_true]
    refine ⟨?_, ?_, ?_, ?_, ?_⟩
    all_goals
      intro f w1 hG hd
      have k_X0_0 := (X0.out.grow (gdT' hG)).cell 0
      have k_X0_1 := (X0.out.grow (gdT' hG)).cell 1
      have k_B0_0 := (B0.out.grow (gdT' hG)).cell 0
      have k_B0_1 := (B0.out.grow (gdT' hG)).cell 1
      simp at k_X0_0 k_X0_1 k_B0_0 k_B0_1
      have GG := Lib.hid (gbT G.out (gdT' hG))
      have OO := Lib.hid (AggR.grow (Ox0.out.grow (gdT' hG)).rd (gbR _ _))
      simp [deps, tAt, isV] at hd
      first | simp [puts, dsts, Act.put, hd] | simp [puts, dsts, Act.put]
      go_wp2_with (first | (go_at_call 28; refine (toCircuit_k m _ _ (AggR.grow HA0.out GG.out) HZ0.out).mono ?_; rintro e w2 ⟨uu, FF, rfl, oo, ll, hw⟩) | (go_at_call 32; refine (eqCircuit_k m _ _ _ OO.out hd.2 HZ0.out).mono ?_; rintro e w2 ⟨rfl, hw⟩))
    all_goals exact ⟨_, rfl, by first | with_reducible exact gbR _ _ | exact hw, by first | (simp [tAt, isV]; done) | exact oo.rd⟩
  · intro f y hG hd
    have g := gdT' hG
    simp [knows, tAt, isV] at hd
    obtain ⟨h1, h2, h3, h4, h5⟩ := hd
    have E := Lib.hid (Blk.grow B0.out g)
    clear B0
    have B0 := E
    clear E
    have E := Lib.hid (Blk.grow X0.out g)
    clear X0
    have X0 := E
    clear E
    have E := Lib.hid (AggO.grow Ox0.out g)
    clear Ox0
    have Ox0 := E
    clear E
    have E := Lib.hid (own_growK _ Ox1.out g)
    clear Ox1
    have Ox1 := E
    clear E
    have E := Lib.hid (own_growK _ Ox2.out g)
    clear Ox2
    have Ox2 := E
    clear E
    have E := Lib.hid (own_growK _ Ox3.out g)
    clear Ox3
    have Ox3 := E
    clear E
    have z14 := World.grownBy.size g
    try simp at z14
    have E := Lib.hid (gbT G.out g)
    clear G
    have G := E
    clear E
    clear g hG
    simp only [puts, dsts, Act.put, h1, h2, h4, h5, List.filterMap_cons, List.filterMap_nil, List.setIfInBounds_toArray, List.set_cons_zero, List.set_cons_succ]
    clear h1 h2 h3 h4 h5
    have k_B0_0 := B0.out.cell 0
    have k_B0_1 := B0.out.cell 1
    have k_X0_0 := X0.out.cell 0
    have k_X0_1 := X0.out.cell 1
    simp at k_B0_0 k_B0_1 k_X0_0 k_X0_1
    go_wp2_with fail
    clear k_B0_0 k_B0_1 k_X0_0 k_X0_1
    refine (toPublicS_z cs _ _ (CS.grow _ HA1.out G.out) HF1.out).mono ?_
    rintro e y ⟨uu, Fy1, rfl, oo, ll, g⟩
    obtain ⟨ay1, ny1, sy1, rfl⟩ := row_form oo
    try simp at ll
    have Oy1 := Lib.hid oo
    have Ly1 := Lib.hid ll
    have Uy1 := Lib.hid (CS.lt _ oo)
    have E := Lib.hid (Blk.grow B0.out g)
    clear B0
    have B0 := E
    clear E
    have E := Lib.hid (Blk.grow X0.out g)
    clear X0
    have X0 := E
    clear E
    have E := Lib.hid (AggO.grow Ox0.out g)
    clear Ox0
    have Ox0 := E
    clear E
    have E := Lib.hid (own_growK _ Ox1.out g)
    clear Ox1
    have Ox1 := E
    clear E
    have E := Lib.hid (own_growK _ Ox2.out g)
    clear Ox2
    have Ox2 := E
    clear E
    have E := Lib.hid (own_growK _ Ox3.out g)
    clear Ox3
    have Ox3 := E
    clear E
    have z15 := World.grownBy.size g
    try simp at z15
    have E := Lib.hid (gbT G.out g)
    clear G
    have G := E
    clear E
    clear g oo ll
    have k_B0_0 := B0.out.cell 0
    have k_B0_1 := B0.out.cell 1
    have k_X0_0 := X0.out.cell 0
    have k_X0_1 := X0.out.cell 1
    simp at k_B0_0 k_B0_1 k_X0_0 k_X0_1
    go_wp2_with fail
    clear k_B0_0 k_B0_1 k_X0_0 k_X0_1
    refine (eqPublicS_z cs _ _ _ (CS.toRd _ Ox1.out) (CS.toRd _ Oy1.out) HF1.out).mono ?_
    rintro e y ⟨rfl, g⟩
    have E := Lib.hid (Blk.grow B0.out g)
    clear B0
    have B0 := E
    clear E
    have E := Lib.hid (Blk.grow X0.out g)
    clear X0
    have X0 := E
    clear E
    have E := Lib.hid (AggO.grow Ox0.out g)
    clear Ox0
    have Ox0 := E
    clear E
    have E := Lib.hid (own_growK _ Ox1.out g)
    clear Ox1
    have Ox1 := E
    clear E
    have E := Lib.hid (own_growK _ Ox2.out g)
    clear Ox2
    have Ox2 := E
    clear E
    have E := Lib.hid (own_growK _ Ox3.out g)
    clear Ox3
    have Ox3 := E
    clear E
    have E := Lib.hid (own_growK _ Oy1.out g)
    clear Oy1
    have Oy1 := E
    clear E
    have z16 := World.grownBy.size g
    try simp at z16
    have E := Lib.hid (gbT G.out g)
    clear G
    have G := E
    clear E
    clear g
    clear Oy1 Ly1 Uy1
    have k_B0_0 := B0.out.cell 0
    have k_B0_1 := B0.out.cell 1
    have k_X0_0 := X0.out.cell 0
    have k_X0_1 := X0.out.cell 1
    simp at k_B0_0 k_B0_1 k_X0_0 k_X0_1
    go_wp2_with fail
    clear k_B0_0 k_B0_1 k_X0_0 k_X0_1
    refine (toIntS_k es _ _ (CS.grow _ HA2.out G.out) HZ2.out).mono ?_
    rintro e y ⟨uu, Fy2, rfl, oo, ll, g⟩
    obtain ⟨ay2, ny2, sy2, rfl⟩ := row_form oo
    try simp at ll
    have Oy2 := Lib.hid oo
    have Ly2 := Lib.hid ll
    have Uy2 := Lib.hid (CS.lt _ oo)
    have E := Lib.hid (Blk.grow B0.out g)
    clear B0
    have B0 := E
    clear E
    have E := Lib.hid (Blk.grow X0.out g)
    clear X0
    have X0 := E
    clear E
    have E := Lib.hid (AggO.grow Ox0.out g)
    clear Ox0
    have Ox0 := E
    clear E
    have E := Lib.hid (own_growK _ Ox1.out g)
    clear Ox1
    have Ox1 := E
    clear E
    have E := Lib.hid (own_growK _ Ox2.out g)
    clear Ox2
    have Ox2 := E
    clear E
    have E := Lib.hid (own_growK _ Ox3.out g)
    clear Ox3
    have Ox3 := E
    clear E
    have z17 := World.grownBy.size g
    try simp at z17
    have E := Lib.hid (gbT G.out g)
    clear G
    have G := E
    clear E
    clear g oo ll
    have k_B0_0 := B0.out.cell 0
    have k_B0_1 := B0.out.cell 1
    have k_X0_0 := X0.out.cell 0
    have k_X0_1 := X0.out.cell 1
    simp at k_B0_0 k_B0_1 k_X0_0 k_X0_1
    go_wp2_with fail
    clear k_B0_0 k_B0_1 k_X0_0 k_X0_1
    refine (eqIntS_k es _ _ _ (CS.toRd _ Ox2.out) (CS.toRd _ Oy2.out) HZ2.out).mono ?_
    rintro e y ⟨rfl, g⟩
    have E := Lib.hid (Blk.grow B0.out g)
    clear B0
    have B0 := E
    clear E
    have E := Lib.hid (Blk.grow X0.out g)
    clear X0
    have X0 := E
    clear E
    have E := Lib.hid (AggO.grow Ox0.out g)
    clear Ox0
    have Ox0 := E
    clear E
    have E := Lib.hid (own_growK _ Ox1.out g)
    clear Ox1
    have Ox1 := E
    clear E
    have E := Lib.hid (own_growK _ Ox2.out g)
    clear Ox2
    have Ox2 := E
    clear E
    have E := Lib.hid (own_growK _ Ox3.out g)
    clear Ox3
    have Ox3 := E
    clear E
    have E := Lib.hid (own_growK _ Oy2.out g)
    clear Oy2
    have Oy2 := E
    clear E
    have z18 := World.grownBy.size g
    try simp at z18
    have E := Lib.hid (gbT G.out g)
    clear G
    have G := E
    clear E
    clear g
    clear Oy2 Ly2 Uy2
    have k_B0_0 := B0.out.cell 0
    have k_B0_1 := B0.out.cell 1
    have k_X0_0 := X0.out.cell 0
    have k_X0_1 := X0.out.cell 1
    simp at k_B0_0 k_B0_1 k_X0_0 k_X0_1
    go_wp2_with fail
    clear k_B0_0 k_B0_1 k_X0_0 k_X0_1
    refine (toBoolS_k bs _ _ (CS.grow _ HA3.out G.out) HZ3.out).mono ?_
    rintro e y ⟨uu, Fy3, rfl, oo, ll, g⟩
    obtain ⟨ay3, ny3, sy3, rfl⟩ := row_form oo
    try simp at ll
    have Oy3 := Lib.hid oo
    have Ly3 := Lib.hid ll
    have Uy3 := Lib.hid (CS.lt _ oo)
    have E := Lib.hid (Blk.grow B0.out g)
    clear B0
    have B0 := E
    clear E
    have E := Lib.hid (Blk.grow X0.out g)
    clear X0
    have X0 := E
    clear E
    have E := Lib.hid (AggO.grow Ox0.out g)
    clear Ox0
    have Ox0 := E
    clear E
    have E := Lib.hid (own_growK _ Ox1.out g)
    clear Ox1
    have Ox1 := E
    clear E
    have E := Lib.hid (own_growK _ Ox2.out g)
    clear Ox2
    have Ox2 := E
    clear E
    have E := Lib.hid (own_growK _ Ox3.out g)
    clear Ox3
    have Ox3 := E
    clear E
    have z19 := World.grownBy.size g
    try simp at z19
    have E := Lib.hid (gbT G.out g)
    clear G
    have G := E
    clear E
    clear g oo ll
    have k_B0_0 := B0.out.cell 0
    have k_B0_1 := B0.out.cell 1
    have k_X0_0 := X0.out.cell 0
    have k_X0_1 := X0.out.cell 1
    simp at k_B0_0 k_B0_1 k_X0_0 k_X0_1
    go_wp2_with fail
    clear k_B0_0 k_B0_1 k_X0_0 k_X0_1
    refine (eqBoolS_k bs _ _ _ (CS.toRd _ Ox3.out) (CS.toRd _ Oy3.out) HZ3.out).mono ?_
    rintro e y ⟨rfl, g⟩
    have E := Lib.hid (Blk.grow B0.out g)
    clear B0
    have B0 := E
    clear E
    have E := Lib.hid (Blk.grow X0.out g)
    clear X0
    have X0 := E
    clear E
    have E := Lib.hid (AggO.grow Ox0.out g)
    clear Ox0
    have Ox0 := E
    clear E
    have E := Lib.hid (own_growK _ Ox1.out g)
    clear Ox1
    have Ox1 := E
    clear E
    have E := Lib.hid (own_growK _ Ox2.out g)
    clear Ox2
    have Ox2 := E
    clear E
    have E := Lib.hid (own_growK _ Ox3.out g)
    clear Ox3
    have Ox3 := E
    clear E
    have E := Lib.hid (own_growK _ Oy3.out g)
    clear Oy3
    have Oy3 := E
    clear E
    have z20 := World.grownBy.size g
    try simp at z20
    have E := Lib.hid (gbT G.out g)
    clear G
    have G := E
    clear E
    clear g
    clear Oy3 Ly3 Uy3
    have k_B0_0 := B0.out.cell 0
    have k_B0_1 := B0.out.cell 1
    have k_X0_0 := X0.out.cell 0
    have k_X0_1 := X0.out.cell 1
    simp at k_B0_0 k_B0_1 k_X0_0 k_X0_1
    go_wp2_with fail
    clear k_B0_0 k_B0_1 k_X0_0 k_X0_1
    go_ret
    exact ⟨rfl, G.out⟩
theorem specCheckCopies_k (m : CM) (cs : List PbM) (es : List Int) (bs : List Bool) (v v1 v2 v3 : Value) (w : World) (h : AggR w (ccircuit m) v) (h1 : (cpubs cs).rd w v1) (h2 : (cints es).rd w v2) (h3 : (cbools bs).rd w v3) (hz : m.sz ≤ 1048576) (hs : szP cs ≤ 1048576) :
    Calls Try.prog 39 #[v, v1, v2, v3] w fun e w' => e = .returned (.int .i64 (chkR m cs es bs)) ∧ w.grownBy w' none :=
  specCheckCopies_c m cs es bs v v1 v2 v3 w h h1 h2 h3 (by unfold CM.sz at hz; omega) (fun x hx => by obtain ⟨q1, q2, q3⟩ := (fitP_of hs).2.1 x hx; exact ⟨by omega, by omega, by omega⟩)
theorem implCheckCopies_k (m : CM) (cs : List PbM) (es : List Int) (bs : List Bool) (v v1 v2 v3 : Value) (w : World) (h : AggR w (ccircuit m) v) (h1 : (cpubs cs).rd w v1) (h2 : (cints es).rd w v2) (h3 : (cbools bs).rd w v3) (hz : m.sz ≤ 1048576) (hs : szP cs ≤ 1048576) :
    Calls Try.prog 42 #[v, v1, v2, v3] w fun e w' => e = .returned (.int .i64 (chkR m cs es bs)) ∧ w.grownBy w' none :=
  implCheckCopies_c m cs es bs v v1 v2 v3 w h h1 h2 h3 (by unfold CM.sz at hz; omega) (fun x hx => by obtain ⟨q1, q2, q3⟩ := (fitP_of hs).2.1 x hx; exact ⟨by omega, by omega, by omega⟩)
set_option maxRecDepth 100000 in
set_option maxHeartbeats 1000000 in
theorem FnExactCheckCopies.walk (w : World) (m : CM) (v : Value) (h : AggR w (ccircuit m) v) (wf : m.wf) (cs : List PbM) (v1 : Value) (h1 : (cpubs cs).rd w v1) (A : Option Addr) (n c : Nat) (es : List Int) (hes : IntsK .i64 w A n es) (hm : n ≤ c) (hc : c ≤ maxLen) (bs : List Bool) (v3 : Value) (h3 : (cbools bs).rd w v3) :
    Calls Try.prog 7 #[v, v1, .slice A n c, v3] w fun e w' => e = .returned (.bool true) ∧ w.grownBy w' none := by
  have hl : es.length = n := Ints.len hes.ints
  have k : (cints es).rd w (.slice A n c) := cints_mk hes.ints hm hc
  unfold maxLen at hc
  obtain ⟨B, d, rfl, hd, hd', hB⟩ := cbools_rd h3
  unfold maxLen at hd'
  by_cases hb : n ≤ 1048576
  · by_cases hb3 : bs.length ≤ 1048576
    · by_cases hz : m.sz ≤ 1048576
      · by_cases hs : szP cs ≤ 1048576 - m.sz
        · exact FnExactCheckCopies.core m cs es bs _ w v v1 _ _ h h1 k h3 hz hs (by omega) hb3 (fun w v v1 v2 v3 h h1 h2 h3 => specCheckCopies_k m cs es bs v v1 v2 v3 w h h1 h2 h3 hz (by omega)) (fun w v v1 v2 v3 h h1 h2 h3 => implCheckCopies_k m cs es bs v v1 v2 v3 w h h1 h2 h3 hz (by omega))
        · have HY := Lib.hid (szO_yes hz)
          have HZ := Lib.hid (szO_no (Nat.lt_of_not_le hs))
          have HA := Lib.hid h
          have HP := Lib.hid h1
          obtain ⟨C, q, rfl, hq, hq'⟩ := cps_rd h1
          obtain ⟨u0, u1, rfl, _, _⟩ := ccircuit_open h
          have hb' : ¬ (1048576 : Int) < (n : Int) := by omega
          have hb3' : ¬ (1048576 : Int) < (bs.length : Int) := by omega
          have k1 : ¬ ((1048576 - m.sz : Nat) : Int) < 0 := by omega
          clear h h1 hz hs hes k hl h3 hB
          go_enter Try.func7, Try.ntmps7
          go_wp2_with fail
          refine (szCircuit_k m _ 1048576 _ (AggR.grow HA.out (gbA (gbR w none) _)) (by omega)).mono ?_
          rintro e y ⟨rfl, g⟩
          rw [HY.out]
          have G := Lib.hid (gbT (gbA (gbR w none) _) g)
          clear g
          go_wp2_with fail
          refine (szPublicS_z cs _ (1048576 - m.sz) _ (CS.grow _ HP.out G.out) (by omega)).mono ?_
          rintro e y2 ⟨rfl, g⟩
          rw [HZ.out]
          have G2 := Lib.hid (gbT G.out g)
          clear g
          go_wp2_with fail
          go_ret
          exact ⟨rfl, G2.out⟩
      · have HZ := Lib.hid (szO_no (Nat.lt_of_not_le hz))
        have HA := Lib.hid h
        obtain ⟨C, q, rfl, hq, hq'⟩ := cps_rd h1
        obtain ⟨u0, u1, rfl, _, _⟩ := ccircuit_open h
        have hb' : ¬ (1048576 : Int) < (n : Int) := by omega
        have hb3' : ¬ (1048576 : Int) < (bs.length : Int) := by omega
        clear h h1 hz hes k hl h3 hB
        go_enter Try.func7, Try.ntmps7
        go_wp2_with fail
        refine (szCircuit_k m _ 1048576 _ (AggR.grow HA.out (gbA (gbR w none) _)) (by omega)).mono ?_
        rintro e y ⟨rfl, g⟩
        rw [HZ.out]
        have G := Lib.hid (gbT (gbA (gbR w none) _) g)
        clear g
        go_wp2_with fail
        go_ret
        exact ⟨rfl, G.out⟩
    · obtain ⟨C, q, rfl, hq, hq'⟩ := cps_rd h1
      obtain ⟨u0, u1, rfl, _, _⟩ := ccircuit_open h
      have hb' : ¬ (1048576 : Int) < (n : Int) := by omega
      have hb3' : (1048576 : Int) < (bs.length : Int) := by omega
      clear h h1 hes k hl h3 hB
      go_enter Try.func7, Try.ntmps7
      go_wp2_with fail
      go_ret
      exact ⟨rfl, gbA (gbR w none) _⟩
  · obtain ⟨C, q, rfl, hq, hq'⟩ := cps_rd h1
    obtain ⟨u0, u1, rfl, _, _⟩ := ccircuit_open h
    have hb' : (1048576 : Int) < (n : Int) := by omega
    clear h h1 hes k hl h3 hB
    go_enter Try.func7, Try.ntmps7
    go_wp2_with fail
    go_ret
    exact ⟨rfl, gbA (gbR w none) _⟩
end Go.Proofs.Ythdfkiaoahpjpaa
