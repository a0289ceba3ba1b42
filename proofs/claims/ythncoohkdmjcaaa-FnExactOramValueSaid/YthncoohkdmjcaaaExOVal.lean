/-
  Exact laws (cores printed by wip/gen_exact.py).
-/
import Derived.Test.YthncoohkdmjcaaaOramValue
namespace Go.Proofs.Ythncoohkdmjcaaa
open Go.RowKit
set_option linter.unusedVariables false
set_option maxRecDepth 100000 in
set_option maxHeartbeats 4000000 in
theorem FnExactOramValue.core (m : OM) (d : Int) (r0 : Int) (w : World) (v0 : Value) (ha0 : AggR w (coram m) v0) (hz0 : m.sz ≤ 1048576) 
    (hs : ∀ (w : World) (v0 : Value), AggR w (coram m) v0 → Calls Try.prog 33 #[v0, .int .i64 d] w fun e w' => e = .returned (.int .i64 r0) ∧ w.grownBy w' none)
    (hi : ∀ (w : World) (v0 : Value), AggR w (coram m) v0 → Calls Try.prog 34 #[v0, .int .i64 d] w fun e w' => e = .returned (.int .i64 r0) ∧ w.grownBy w' none) :
    Calls Try.prog 7 #[v0, .int .i64 d] w fun e w' => e = .returned (.bool true) ∧ w.grownBy w' none := by
  have HS := Lib.hid hs
  have HI := Lib.hid hi
  obtain ⟨p0_0, p0_1, p0_2, rfl, _, _, _⟩ := coram_open (m := m) ha0
  have kc0 : 1 ≤ m.cnt 1 ∧ m.cnt 1 ≤ 16777216 := by
    unfold OM.cnt
    have kb := cntB_bd (xss := m.bk) (by unfold OM.sz at hz0; omega)
    unfold OM.sz szB at hz0
    omega
  have HA0 := Lib.hid ha0
  have HZ0 := Lib.hid hz0
  clear hs hi ha0 hz0
  have B0 := Lib.hid (Blk.new w 30 #[p0_0, p0_1, p0_2])
  have G := Lib.hid (gbA (gbR w none) (.cells #[p0_0, p0_1, p0_2] 30))
  go_enter Try.func7, Try.ntmps7
  have z0 : w.heap.size ≤ w.heap.size := Nat.le_refl _
  have k1 : ¬ ((1048576 - m.sz : Nat) : Int) < 0 := by omega
  have k_B0_0 := B0.out.cell 0
  have k_B0_1 := B0.out.cell 1
  have k_B0_2 := B0.out.cell 2
  simp at k_B0_0 k_B0_1 k_B0_2
  go_wp2_with fail
  clear k_B0_0 k_B0_1 k_B0_2
  refine (szOram_k m _ 1048576 _ (AggR.grow HA0.out G.out) (by omega)).mono ?_
  rintro e y ⟨rfl, g⟩
  rw [szO_yes HZ0.out]
  have E := Lib.hid (Blk.grow B0.out g)
  clear B0
  have B0 := E
  clear E
  have z1 := World.grownBy.size g
  try simp at z1
  have E := Lib.hid (gbT G.out g)
  clear G
  have G := E
  clear E
  clear g k1
  have k_B0_0 := B0.out.cell 0
  have k_B0_1 := B0.out.cell 1
  have k_B0_2 := B0.out.cell 2
  simp at k_B0_0 k_B0_1 k_B0_2
  go_wp2_with fail
  clear k_B0_0 k_B0_1 k_B0_2
  refine (toOram_k m _ _ (AggR.grow HA0.out G.out) HZ0.out).mono ?_
  rintro e y ⟨uu, Fw0, rfl, oo, ll, g⟩
  obtain ⟨aw0_0, nw0_0, sw0_0, aw0_1, nw0_1, sw0_1, aw0_2, nw0_2, sw0_2, rfl⟩ := coram_oform oo
  try simp at ll
  have Ow0 := Lib.hid oo
  have Lw0 := Lib.hid ll
  have Uw0 := Lib.hid (AggO.lt oo)
  have E := Lib.hid (Blk.grow B0.out g)
  clear B0
  have B0 := E
  clear E
  have z2 := World.grownBy.size g
  try simp at z2
  have E := Lib.hid (gbT G.out g)
  clear G
  have G := E
  clear E
  clear g oo ll
  have k_B0_0 := B0.out.cell 0
  have k_B0_1 := B0.out.cell 1
  have k_B0_2 := B0.out.cell 2
  simp at k_B0_0 k_B0_1 k_B0_2
  go_wp2_with fail
  clear k_B0_0 k_B0_1 k_B0_2
  refine (HS.out _ _ Ow0.out.rd).mono ?_
  rintro e y ⟨rfl, g⟩
  have E := Lib.hid (Blk.grow B0.out g)
  clear B0
  have B0 := E
  clear E
  have E := Lib.hid (AggO.grow Ow0.out g)
  clear Ow0
  have Ow0 := E
  clear E
  have z3 := World.grownBy.size g
  try simp at z3
  have E := Lib.hid (gbT G.out g)
  clear G
  have G := E
  clear E
  clear g 
  clear Ow0 Lw0 Uw0
  have k_B0_0 := B0.out.cell 0
  have k_B0_1 := B0.out.cell 1
  have k_B0_2 := B0.out.cell 2
  simp at k_B0_0 k_B0_1 k_B0_2
  go_wp2_with fail
  clear k_B0_0 k_B0_1 k_B0_2
  refine (toOram_k m _ _ (AggR.grow HA0.out G.out) HZ0.out).mono ?_
  rintro e y ⟨uu, Fx0, rfl, oo, ll, g⟩
  obtain ⟨ax0_0, nx0_0, sx0_0, ax0_1, nx0_1, sx0_1, ax0_2, nx0_2, sx0_2, rfl⟩ := coram_oform oo
  try simp at ll
  have Ox0 := Lib.hid oo
  have Lx0 := Lib.hid ll
  have Ux0 := Lib.hid (AggO.lt oo)
  have E := Lib.hid (Blk.grow B0.out g)
  clear B0
  have B0 := E
  clear E
  have z4 := World.grownBy.size g
  try simp at z4
  have E := Lib.hid (gbT G.out g)
  clear G
  have G := E
  clear E
  clear g oo ll
  have X := Lib.hid (Blk.new y 36 #[.slice ax0_0 nx0_0 sx0_0, .slice ax0_1 nx0_1 sx0_1, .slice ax0_2 nx0_2 sx0_2])
  have ga : y.grownBy (y.alloc (.cells #[.slice ax0_0 nx0_0 sx0_0, .slice ax0_1 nx0_1 sx0_1, .slice ax0_2 nx0_2 sx0_2] 36)) none := gbA (gbR y none) _
  have E := Lib.hid (Blk.grow B0.out ga)
  clear B0
  have B0 := E
  clear E
  have E := Lib.hid (AggO.grow Ox0.out ga)
  clear Ox0
  have Ox0 := E
  clear E
  have z5 := World.grownBy.size ga
  try simp at z5
  have E := Lib.hid (gbT G.out ga)
  clear G
  have G := E
  clear E
  clear ga
  have X0 := X
  clear X
  go_wp2_with fail
  refine (HI.out _ _ Ox0.out.rd).mono ?_
  rintro e y ⟨rfl, g⟩
  have E := Lib.hid (Blk.grow B0.out g)
  clear B0
  have B0 := E
  clear E
  have E := Lib.hid (Blk.grow X0.out g)
  clear X0
  have X0 := E
  clear E
  have E := Lib.hid (AggO.grow Ox0.out g)
  clear Ox0
  have Ox0 := E
  clear E
  have z6 := World.grownBy.size g
  try simp at z6
  have E := Lib.hid (gbT G.out g)
  clear G
  have G := E
  clear E
  clear g 
  have k_B0_0 := B0.out.cell 0
  have k_B0_1 := B0.out.cell 1
  have k_B0_2 := B0.out.cell 2
  have k_X0_0 := X0.out.cell 0
  have k_X0_1 := X0.out.cell 1
  have k_X0_2 := X0.out.cell 2
  simp at k_B0_0 k_B0_1 k_B0_2 k_X0_0 k_X0_1 k_X0_2
  go_wp2_with fail
  clear k_B0_0 k_B0_1 k_B0_2 k_X0_0 k_X0_1 k_X0_2
  refine region_grow [isV (.agg #[.slice ax0_0 nx0_0 sx0_0, .slice ax0_1 nx0_1 sx0_1, .slice ax0_2 nx0_2 sx0_2]), isV (.agg #[p0_0, p0_1, p0_2]), fun v w => AggR w (coram m) v, isV (.bool true), isV (.bool false)] (by kernel_rfl) (by kernel_rfl) (by kernel_rfl) (by simp only [stables, List.mem_cons, List.not_mem_nil, or_false, forall_eq_or_imp, forall_eq]; exact ⟨isV_st _, isV_st _, fun _ _ _ h hg => AggR.grow h hg, isV_st _, isV_st _⟩) ?_ ?_
  · simp only [hops, and_true]
    refine ⟨?_, ?_, ?_, ?_, ?_⟩
    all_goals
      intro f w1 hG hd
      have k_X0_0 := (X0.out.grow (gdT' hG)).cell 0
      have k_X0_1 := (X0.out.grow (gdT' hG)).cell 1
      have k_X0_2 := (X0.out.grow (gdT' hG)).cell 2
      have k_B0_0 := (B0.out.grow (gdT' hG)).cell 0
      have k_B0_1 := (B0.out.grow (gdT' hG)).cell 1
      have k_B0_2 := (B0.out.grow (gdT' hG)).cell 2
      simp at k_X0_0 k_X0_1 k_X0_2 k_B0_0 k_B0_1 k_B0_2
      have GG := Lib.hid (gbT G.out (gdT' hG))
      have OO := Lib.hid (AggR.grow (Ox0.out.grow (gdT' hG)).rd (gbR _ _))
      simp [deps, tAt, isV] at hd
      first | simp [puts, dsts, Act.put, hd] | simp [puts, dsts, Act.put]
      go_wp2_with (first | (go_at_call 23; refine (toOram_k m _ _ (AggR.grow HA0.out GG.out) HZ0.out).mono ?_; rintro e w2 ⟨uu, FF, rfl, oo, ll, hw⟩) | (go_at_call 25; refine (eqOram_k m _ _ _ OO.out hd.2 HZ0.out).mono ?_; rintro e w2 ⟨rfl, hw⟩))
    all_goals exact ⟨_, rfl, by first | with_reducible exact gbR _ _ | exact hw, by first | (simp [tAt, isV]; done) | exact oo.rd⟩
  · intro f y hG hd
    have g := gdT' hG
    simp [knows, tAt, isV] at hd
    obtain ⟨h1, h2, h3, h4, h5⟩ := hd
    have E := Lib.hid (Blk.grow B0.out g)
    clear B0
    have B0 := E
    clear E
    have E := Lib.hid (Blk.grow X0.out g)
    clear X0
    have X0 := E
    clear E
    have E := Lib.hid (AggO.grow Ox0.out g)
    clear Ox0
    have Ox0 := E
    clear E
    have z7 := World.grownBy.size g
    try simp at z7
    have E := Lib.hid (gbT G.out g)
    clear G
    have G := E
    clear E
    clear g hG
    simp only [puts, dsts, Act.put, h1, h2, h4, h5, List.filterMap_cons, List.filterMap_nil, List.setIfInBounds_toArray, List.set_cons_zero, List.set_cons_succ]
    clear h1 h2 h3 h4 h5
    have k_B0_0 := B0.out.cell 0
    have k_B0_1 := B0.out.cell 1
    have k_B0_2 := B0.out.cell 2
    have k_X0_0 := X0.out.cell 0
    have k_X0_1 := X0.out.cell 1
    have k_X0_2 := X0.out.cell 2
    simp at k_B0_0 k_B0_1 k_B0_2 k_X0_0 k_X0_1 k_X0_2
    go_wp2_with fail
    clear k_B0_0 k_B0_1 k_B0_2 k_X0_0 k_X0_1 k_X0_2
    go_ret
    exact ⟨rfl, G.out⟩
theorem FnExactOramValue.walk (w : World) (m : OM) (v : Value) (h : AggR w (coram m) v) (wf : m.wf) (d : Int) (wd : (Lit.int .i64 d).wf = true) :
    Calls Try.prog 7 #[v, .int .i64 d] w fun e w' => e = .returned (.bool true) ∧ w.grownBy w' none := by
  by_cases hz : m.sz ≤ 1048576
  · exact (FnExactOramValue.core m d (valO m d) w v h hz (fun w v h => specOramValue_c m v d w h (by omega)) (fun w v h => implOramValue_c m v d w h (by omega)))
  · have HZ := Lib.hid (szO_no (Nat.lt_of_not_le hz))
    have HA := Lib.hid h
    obtain ⟨u0, u1, u2, rfl, _, _, _⟩ := coram_open h
    clear h hz
    go_enter Try.func7, Try.ntmps7
    go_wp2_with fail
    refine (szOram_k m _ 1048576 _ (AggR.grow HA.out (gbA (gbR w none) _)) (by omega)).mono ?_
    rintro e y ⟨rfl, g⟩
    rw [HZ.out]
    have G := Lib.hid (gbT (gbA (gbR w none) _) g)
    clear g
    go_wp2_with fail
    go_ret
    exact ⟨rfl, G.out⟩
end Go.Proofs.Ythncoohkdmjcaaa
