/-
  Exact laws (cores printed by wip/gen_exact.py).
-/
import Derived.Test.YthncoohkdmjcaaaMgFnExactOramAccess42
import Derived.Test.YthncoohkdmjcaaaMgFnExactOramAccess21
namespace Go.Proofs.Ythncoohkdmjcaaa
open Go.RowKit
set_option linter.unusedVariables false
set_option linter.unusedSimpArgs false
set_option maxRecDepth 100000 in
set_option maxHeartbeats 4000000 in
theorem FnExactOramAccess.core (o : OM) (d : Int) (wr : Bool) (x : Int) (l : Int) (r0 : OM) (r1 : Int) (r2 : Int) (r3 : Bool) (w : World) (v0 : Value) (ha0 : AggR w (coram o) v0) (hz0 : o.sz ≤ 1048576) (hs0 : r0.sz ≤ 1048576)
    (hs : ∀ (w : World) (v0 : Value), AggR w (coram o) v0 → Calls Try.prog 39 #[v0, .int .i64 d, .bool wr, .int .i64 x, .int .i64 l] w fun e w' => ∃ Vr0 Fr0, e = .returned (.tuple #[Vr0, .int .i64 r1, .int .i64 r2, .bool r3]) ∧ AggO w' (coram r0) Fr0 Vr0 ∧ (∀ g ∈ Fr0, w.heap.size ≤ g) ∧ w.grownBy w' none)
    (hi : ∀ (w : World) (v0 : Value), AggR w (coram o) v0 → Calls Try.prog 38 #[v0, .int .i64 d, .bool wr, .int .i64 x, .int .i64 l] w fun e w' => ∃ Vr0 Fr0, e = .returned (.tuple #[Vr0, .int .i64 r1, .int .i64 r2, .bool r3]) ∧ AggO w' (coram r0) Fr0 Vr0 ∧ (∀ g ∈ Fr0, w.heap.size ≤ g) ∧ w.grownBy w' none) :
    Calls Try.prog 11 #[v0, .int .i64 d, .bool wr, .int .i64 x, .int .i64 l] w fun e w' => e = .returned (.bool true) ∧ w.grownBy w' none := by
  have HS := Lib.hid hs
  have HI := Lib.hid hi
  obtain ⟨p0_0, p0_1, p0_2, rfl, _, _, _⟩ := coram_open (m := o) ha0
  have kc0 : 1 ≤ o.cnt 1 ∧ o.cnt 1 ≤ 16777216 := by
    unfold OM.cnt
    have kb := cntB_bd (xss := o.bk) (by unfold OM.sz at hz0; omega)
    unfold OM.sz szB at hz0
    omega
  have HA0 := Lib.hid ha0
  have HZ0 := Lib.hid hz0
  have kr0 : 1 ≤ r0.cnt 1 ∧ r0.cnt 1 ≤ 16777216 := by
    unfold OM.cnt
    have kb := cntB_bd (xss := r0.bk) (by unfold OM.sz at hs0; omega)
    unfold OM.sz szB at hs0
    omega
  have HL0 := Lib.hid hs0
  clear hs hi ha0 hz0
  have B0 := Lib.hid (Blk.new w 30 #[p0_0, p0_1, p0_2])
  have G := Lib.hid (gbA (gbR w none) (.cells #[p0_0, p0_1, p0_2] 30))
  go_enter Try.func11, Try.ntmps11
  have z0 : w.heap.size ≤ w.heap.size := Nat.le_refl _
  have k1 : ¬ ((1048576 - o.sz : Nat) : Int) < 0 := by omega
  have k_B0_0 := B0.out.cell 0
  have k_B0_1 := B0.out.cell 1
  have k_B0_2 := B0.out.cell 2
  simp at k_B0_0 k_B0_1 k_B0_2
  go_wp2_with fail
  clear k_B0_0 k_B0_1 k_B0_2
  refine (szOram_k o _ 1048576 _ (AggR.grow HA0.out G.out) (by omega)).mono ?_
  rintro e y ⟨rfl, g⟩
  rw [szO_yes HZ0.out]
  have E := Lib.hid (Blk.grow B0.out g)
  clear B0
  have B0 := E
  clear E
  have z1 := World.grownBy.size g
  try simp at z1
  have E := Lib.hid (gbT G.out g)
  clear G
  have G := E
  clear E
  clear g k1
  have k_B0_0 := B0.out.cell 0
  have k_B0_1 := B0.out.cell 1
  have k_B0_2 := B0.out.cell 2
  simp at k_B0_0 k_B0_1 k_B0_2
  go_wp2_with fail
  clear k_B0_0 k_B0_1 k_B0_2
  refine (toOram_k o _ _ (AggR.grow HA0.out G.out) HZ0.out).mono ?_
  rintro e y ⟨uu, Fw0, rfl, oo, ll, g⟩
  obtain ⟨aw0_0, nw0_0, sw0_0, aw0_1, nw0_1, sw0_1, aw0_2, nw0_2, sw0_2, rfl⟩ := coram_oform oo
  try simp at ll
  have Ow0 := Lib.hid oo
  have Lw0 := Lib.hid ll
  have Uw0 := Lib.hid (AggO.lt oo)
  have E := Lib.hid (Blk.grow B0.out g)
  clear B0
  have B0 := E
  clear E
  have z2 := World.grownBy.size g
  try simp at z2
  have E := Lib.hid (gbT G.out g)
  clear G
  have G := E
  clear E
  clear g oo ll
  have k_B0_0 := B0.out.cell 0
  have k_B0_1 := B0.out.cell 1
  have k_B0_2 := B0.out.cell 2
  simp at k_B0_0 k_B0_1 k_B0_2
  go_wp2_with fail
  clear k_B0_0 k_B0_1 k_B0_2
  refine (HS.out _ _ Ow0.out.rd).mono ?_
  rintro e y ⟨Vwr0, Fwr0, rfl, owr0, lwr0, g⟩
  obtain ⟨awr0_0, nwr0_0, swr0_0, awr0_1, nwr0_1, swr0_1, awr0_2, nwr0_2, swr0_2, rfl⟩ := coram_oform owr0
  try simp at lwr0
  have Owr0 := Lib.hid owr0
  have Lwr0 := Lib.hid lwr0
  have Uwr0 := Lib.hid (AggO.lt owr0)
  have E := Lib.hid (Blk.grow B0.out g)
  clear B0
  have B0 := E
  clear E
  have E := Lib.hid (AggO.grow Ow0.out g)
  clear Ow0
  have Ow0 := E
  clear E
  have z3 := World.grownBy.size g
  try simp at z3
  have E := Lib.hid (gbT G.out g)
  clear G
  have G := E
  clear E
  clear g owr0 lwr0
  clear Ow0 Lw0 Uw0
  have k_B0_0 := B0.out.cell 0
  have k_B0_1 := B0.out.cell 1
  have k_B0_2 := B0.out.cell 2
  simp at k_B0_0 k_B0_1 k_B0_2
  have qk_B0_0 := fun o => kA k_B0_0 o
  have qk_B0_1 := fun o => kA k_B0_1 o
  have qk_B0_2 := fun o => kA k_B0_2 o
  have lt_B0 := B0.out.lt
  go_wp2_with fail
  clear k_B0_0 k_B0_1 k_B0_2 qk_B0_0 qk_B0_1 qk_B0_2 lt_B0
  have X := Lib.hid (Blk.new y 36 #[.slice awr0_0 nwr0_0 swr0_0, .slice awr0_1 nwr0_1 swr0_1, .slice awr0_2 nwr0_2 swr0_2])
  have ga : y.grownBy (y.alloc (.cells #[.slice awr0_0 nwr0_0 swr0_0, .slice awr0_1 nwr0_1 swr0_1, .slice awr0_2 nwr0_2 swr0_2] 36)) none := gbA (gbR y none) _
  have E := Lib.hid (Blk.grow B0.out ga)
  clear B0
  have B0 := E
  clear E
  have E := Lib.hid (AggO.grow Owr0.out ga)
  clear Owr0
  have Owr0 := E
  clear E
  have z4 := World.grownBy.size ga
  try simp at z4
  have E := Lib.hid (gbT G.out ga)
  clear G
  have G := E
  clear E
  clear ga
  have Cwr0 := X
  clear X
  refine (toOram_k o _ _ (AggR.grow HA0.out G.out) HZ0.out).mono ?_
  rintro e y ⟨uu, Fx0, rfl, oo, ll, g⟩
  obtain ⟨ax0_0, nx0_0, sx0_0, ax0_1, nx0_1, sx0_1, ax0_2, nx0_2, sx0_2, rfl⟩ := coram_oform oo
  try simp at ll
  have Ox0 := Lib.hid oo
  have Lx0 := Lib.hid ll
  have Ux0 := Lib.hid (AggO.lt oo)
  have E := Lib.hid (Blk.grow B0.out g)
  clear B0
  have B0 := E
  clear E
  have E := Lib.hid (Blk.grow Cwr0.out g)
  clear Cwr0
  have Cwr0 := E
  clear E
  have E := Lib.hid (AggO.grow Owr0.out g)
  clear Owr0
  have Owr0 := E
  clear E
  have z5 := World.grownBy.size g
  try simp at z5
  have E := Lib.hid (gbT G.out g)
  clear G
  have G := E
  clear E
  clear g oo ll
  have X := Lib.hid (Blk.new y 36 #[.slice ax0_0 nx0_0 sx0_0, .slice ax0_1 nx0_1 sx0_1, .slice ax0_2 nx0_2 sx0_2])
  have ga : y.grownBy (y.alloc (.cells #[.slice ax0_0 nx0_0 sx0_0, .slice ax0_1 nx0_1 sx0_1, .slice ax0_2 nx0_2 sx0_2] 36)) none := gbA (gbR y none) _
  have E := Lib.hid (Blk.grow B0.out ga)
  clear B0
  have B0 := E
  clear E
  have E := Lib.hid (Blk.grow Cwr0.out ga)
  clear Cwr0
  have Cwr0 := E
  clear E
  have E := Lib.hid (AggO.grow Owr0.out ga)
  clear Owr0
  have Owr0 := E
  clear E
  have E := Lib.hid (AggO.grow Ox0.out ga)
  clear Ox0
  have Ox0 := E
  clear E
  have z6 := World.grownBy.size ga
  try simp at z6
  have E := Lib.hid (gbT G.out ga)
  clear G
  have G := E
  clear E
  clear ga
  have X0 := X
  clear X
  go_wp2_with fail
  refine (HI.out _ _ Ox0.out.rd).mono ?_
  rintro e y ⟨Vgr0, Fgr0, rfl, ogr0, lgr0, g⟩
  obtain ⟨agr0_0, ngr0_0, sgr0_0, agr0_1, ngr0_1, sgr0_1, agr0_2, ngr0_2, sgr0_2, rfl⟩ := coram_oform ogr0
  try simp at lgr0
  have Ogr0 := Lib.hid ogr0
  have Lgr0 := Lib.hid lgr0
  have Ugr0 := Lib.hid (AggO.lt ogr0)
  have E := Lib.hid (Blk.grow B0.out g)
  clear B0
  have B0 := E
  clear E
  have E := Lib.hid (Blk.grow Cwr0.out g)
  clear Cwr0
  have Cwr0 := E
  clear E
  have E := Lib.hid (Blk.grow X0.out g)
  clear X0
  have X0 := E
  clear E
  have E := Lib.hid (AggO.grow Owr0.out g)
  clear Owr0
  have Owr0 := E
  clear E
  have E := Lib.hid (AggO.grow Ox0.out g)
  clear Ox0
  have Ox0 := E
  clear E
  have z7 := World.grownBy.size g
  try simp at z7
  have E := Lib.hid (gbT G.out g)
  clear G
  have G := E
  clear E
  clear g ogr0 lgr0
  have k_B0_0 := B0.out.cell 0
  have k_B0_1 := B0.out.cell 1
  have k_B0_2 := B0.out.cell 2
  have k_Cwr0_0 := Cwr0.out.cell 0
  have k_Cwr0_1 := Cwr0.out.cell 1
  have k_Cwr0_2 := Cwr0.out.cell 2
  have k_X0_0 := X0.out.cell 0
  have k_X0_1 := X0.out.cell 1
  have k_X0_2 := X0.out.cell 2
  simp at k_B0_0 k_B0_1 k_B0_2 k_Cwr0_0 k_Cwr0_1 k_Cwr0_2 k_X0_0 k_X0_1 k_X0_2
  have qk_B0_0 := fun o => kA k_B0_0 o
  have qk_B0_1 := fun o => kA k_B0_1 o
  have qk_B0_2 := fun o => kA k_B0_2 o
  have qk_Cwr0_0 := fun o => kA k_Cwr0_0 o
  have qk_Cwr0_1 := fun o => kA k_Cwr0_1 o
  have qk_Cwr0_2 := fun o => kA k_Cwr0_2 o
  have qk_X0_0 := fun o => kA k_X0_0 o
  have qk_X0_1 := fun o => kA k_X0_1 o
  have qk_X0_2 := fun o => kA k_X0_2 o
  have lt_B0 := B0.out.lt
  have lt_Cwr0 := Cwr0.out.lt
  have lt_X0 := X0.out.lt
  go_wp2_with fail
  clear k_B0_0 k_B0_1 k_B0_2 k_Cwr0_0 k_Cwr0_1 k_Cwr0_2 k_X0_0 k_X0_1 k_X0_2 qk_B0_0 qk_B0_1 qk_B0_2 qk_Cwr0_0 qk_Cwr0_1 qk_Cwr0_2 qk_X0_0 qk_X0_1 qk_X0_2 lt_B0 lt_Cwr0 lt_X0
  have X := Lib.hid (Blk.new y 36 #[.slice agr0_0 ngr0_0 sgr0_0, .slice agr0_1 ngr0_1 sgr0_1, .slice agr0_2 ngr0_2 sgr0_2])
  have ga : y.grownBy (y.alloc (.cells #[.slice agr0_0 ngr0_0 sgr0_0, .slice agr0_1 ngr0_1 sgr0_1, .slice agr0_2 ngr0_2 sgr0_2] 36)) none := gbA (gbR y none) _
  have E := Lib.hid (Blk.grow B0.out ga)
  clear B0
  have B0 := E
  clear E
  have E := Lib.hid (Blk.grow Cwr0.out ga)
  clear Cwr0
  have Cwr0 := E
  clear E
  have E := Lib.hid (Blk.grow X0.out ga)
  clear X0
  have X0 := E
  clear E
  have E := Lib.hid (AggO.grow Owr0.out ga)
  clear Owr0
  have Owr0 := E
  clear E
  have E := Lib.hid (AggO.grow Ox0.out ga)
  clear Ox0
  have Ox0 := E
  clear E
  have E := Lib.hid (AggO.grow Ogr0.out ga)
  clear Ogr0
  have Ogr0 := E
  clear E
  have z8 := World.grownBy.size ga
  try simp at z8
  have E := Lib.hid (gbT G.out ga)
  clear G
  have G := E
  clear E
  clear ga
  have Cgr0 := X
  clear X
  refine (eqOram_k r0 _ _ _ Ogr0.out.rd Owr0.out.rd HL0.out).mono ?_
  rintro e y ⟨rfl, g⟩
  have E := Lib.hid (Blk.grow B0.out g)
  clear B0
  have B0 := E
  clear E
  have E := Lib.hid (Blk.grow Cwr0.out g)
  clear Cwr0
  have Cwr0 := E
  clear E
  have E := Lib.hid (Blk.grow X0.out g)
  clear X0
  have X0 := E
  clear E
  have E := Lib.hid (Blk.grow Cgr0.out g)
  clear Cgr0
  have Cgr0 := E
  clear E
  have E := Lib.hid (AggO.grow Owr0.out g)
  clear Owr0
  have Owr0 := E
  clear E
  have E := Lib.hid (AggO.grow Ox0.out g)
  clear Ox0
  have Ox0 := E
  clear E
  have E := Lib.hid (AggO.grow Ogr0.out g)
  clear Ogr0
  have Ogr0 := E
  clear E
  have z9 := World.grownBy.size g
  try simp at z9
  have E := Lib.hid (gbT G.out g)
  clear G
  have G := E
  clear E
  clear g
  have k_B0_0 := B0.out.cell 0
  have k_B0_1 := B0.out.cell 1
  have k_B0_2 := B0.out.cell 2
  have k_Cwr0_0 := Cwr0.out.cell 0
  have k_Cwr0_1 := Cwr0.out.cell 1
  have k_Cwr0_2 := Cwr0.out.cell 2
  have k_X0_0 := X0.out.cell 0
  have k_X0_1 := X0.out.cell 1
  have k_X0_2 := X0.out.cell 2
  have k_Cgr0_0 := Cgr0.out.cell 0
  have k_Cgr0_1 := Cgr0.out.cell 1
  have k_Cgr0_2 := Cgr0.out.cell 2
  simp at k_B0_0 k_B0_1 k_B0_2 k_Cwr0_0 k_Cwr0_1 k_Cwr0_2 k_X0_0 k_X0_1 k_X0_2 k_Cgr0_0 k_Cgr0_1 k_Cgr0_2
  go_wp2_with fail
  clear k_B0_0 k_B0_1 k_B0_2 k_Cwr0_0 k_Cwr0_1 k_Cwr0_2 k_X0_0 k_X0_1 k_X0_2 k_Cgr0_0 k_Cgr0_1 k_Cgr0_2
  refine region_grow [isV (.agg #[.slice ax0_0 nx0_0 sx0_0, .slice ax0_1 nx0_1 sx0_1, .slice ax0_2 nx0_2 sx0_2]), isV (.agg #[p0_0, p0_1, p0_2]), fun v w => AggR w (coram o) v, isV (.bool true), isV (.bool false)] (by kernel_rfl) (by kernel_rfl) (by kernel_rfl) (by simp only [stables, List.mem_cons, List.not_mem_nil, or_false, forall_eq_or_imp, forall_eq]; exact ⟨isV_st _, isV_st _, fun _ _ _ h hg => AggR.grow h hg, isV_st _, isV_st _⟩) ?_ ?_
  · simp only [hops, and_true]
    refine ⟨?_, ?_, ?_, ?_, ?_⟩
    all_goals
      intro f w1 hG hd
      have k_X0_0 := (X0.out.grow (gdT' hG)).cell 0
      have k_X0_1 := (X0.out.grow (gdT' hG)).cell 1
      have k_X0_2 := (X0.out.grow (gdT' hG)).cell 2
      have k_B0_0 := (B0.out.grow (gdT' hG)).cell 0
      have k_B0_1 := (B0.out.grow (gdT' hG)).cell 1
      have k_B0_2 := (B0.out.grow (gdT' hG)).cell 2
      simp at k_X0_0 k_X0_1 k_X0_2 k_B0_0 k_B0_1 k_B0_2
      have GG := Lib.hid (gbT G.out (gdT' hG))
      have OO := Lib.hid (AggR.grow (Ox0.out.grow (gdT' hG)).rd (gbR _ _))
      simp [deps, tAt, isV] at hd
      first | simp [puts, dsts, Act.put, hd] | simp [puts, dsts, Act.put]
      go_wp2_with (first | (go_at_call 23; refine (toOram_k o _ _ (AggR.grow HA0.out GG.out) HZ0.out).mono ?_; rintro e w2 ⟨uu, FF, rfl, oo, ll, hw⟩) | (go_at_call 25; refine (eqOram_k o _ _ _ OO.out hd.2 HZ0.out).mono ?_; rintro e w2 ⟨rfl, hw⟩))
    all_goals exact ⟨_, rfl, by first | with_reducible exact gbR _ _ | exact hw, by first | (simp [tAt, isV]; done) | exact oo.rd⟩
  · intro f y hG hd
    have g := gdT' hG
    simp [knows, tAt, isV] at hd
    obtain ⟨h1, h2, h3, h4, h5⟩ := hd
    have E := Lib.hid (Blk.grow B0.out g)
    clear B0
    have B0 := E
    clear E
    have E := Lib.hid (Blk.grow Cwr0.out g)
    clear Cwr0
    have Cwr0 := E
    clear E
    have E := Lib.hid (Blk.grow X0.out g)
    clear X0
    have X0 := E
    clear E
    have E := Lib.hid (Blk.grow Cgr0.out g)
    clear Cgr0
    have Cgr0 := E
    clear E
    have E := Lib.hid (AggO.grow Owr0.out g)
    clear Owr0
    have Owr0 := E
    clear E
    have E := Lib.hid (AggO.grow Ox0.out g)
    clear Ox0
    have Ox0 := E
    clear E
    have E := Lib.hid (AggO.grow Ogr0.out g)
    clear Ogr0
    have Ogr0 := E
    clear E
    have z10 := World.grownBy.size g
    try simp at z10
    have E := Lib.hid (gbT G.out g)
    clear G
    have G := E
    clear E
    clear g hG
    simp only [puts, dsts, Act.put, h1, h2, h4, h5, List.filterMap_cons, List.filterMap_nil, List.setIfInBounds_toArray, List.set_cons_zero, List.set_cons_succ]
    clear h1 h2 h3 h4 h5
    have k_B0_0 := B0.out.cell 0
    have k_B0_1 := B0.out.cell 1
    have k_B0_2 := B0.out.cell 2
    have k_Cwr0_0 := Cwr0.out.cell 0
    have k_Cwr0_1 := Cwr0.out.cell 1
    have k_Cwr0_2 := Cwr0.out.cell 2
    have k_X0_0 := X0.out.cell 0
    have k_X0_1 := X0.out.cell 1
    have k_X0_2 := X0.out.cell 2
    have k_Cgr0_0 := Cgr0.out.cell 0
    have k_Cgr0_1 := Cgr0.out.cell 1
    have k_Cgr0_2 := Cgr0.out.cell 2
    simp at k_B0_0 k_B0_1 k_B0_2 k_Cwr0_0 k_Cwr0_1 k_Cwr0_2 k_X0_0 k_X0_1 k_X0_2 k_Cgr0_0 k_Cgr0_1 k_Cgr0_2
    go_wp2_with fail
    clear k_B0_0 k_B0_1 k_B0_2 k_Cwr0_0 k_Cwr0_1 k_Cwr0_2 k_X0_0 k_X0_1 k_X0_2 k_Cgr0_0 k_Cgr0_1 k_Cgr0_2
    refine (markOram_k o _ Fx0 1 _ Ox0.out HZ0.out (by omega) (by omega)).mono ?_
    rintro e y ⟨rfl, oo, cc⟩
    clear Ox0
    have Ox0 := Lib.hid oo
    clear oo
    have E := Lib.hid (blk_chg B0.out cc (fun hg => by have h1 := Lx0.out _ hg; have h2 := Ux0.out _ hg; omega))
    clear B0
    have B0 := E
    clear E
    have E := Lib.hid (blk_chg Cwr0.out cc (fun hg => by have h1 := Lx0.out _ hg; have h2 := Ux0.out _ hg; omega))
    clear Cwr0
    have Cwr0 := E
    clear E
    have E := Lib.hid (blk_chg X0.out cc (fun hg => by have h1 := Lx0.out _ hg; have h2 := Ux0.out _ hg; omega))
    clear X0
    have X0 := E
    clear E
    have E := Lib.hid (blk_chg Cgr0.out cc (fun hg => by have h1 := Lx0.out _ hg; have h2 := Ux0.out _ hg; omega))
    clear Cgr0
    have Cgr0 := E
    clear E
    have E := Lib.hid (AggO.chg Owr0.out cc (fun g hg hx => by have h1 := Lwr0.out g hg; have h2 := Uwr0.out g hg; have h3 := Lx0.out g hx; have h4 := Ux0.out g hx; omega))
    clear Owr0
    have Owr0 := E
    clear E
    have E := Lib.hid (AggO.chg Ogr0.out cc (fun g hg hx => by have h1 := Lgr0.out g hg; have h2 := Ugr0.out g hg; have h3 := Lx0.out g hx; have h4 := Ux0.out g hx; omega))
    clear Ogr0
    have Ogr0 := E
    clear E
    have z11 := Chg.size cc
    try simp at z11
    have E := Lib.hid (Chg.new G.out cc (fun g hg => by have h1 := Lx0.out g hg; omega))
    clear G
    have G := E
    clear E
    clear cc
    clear Ox0 Lx0 Ux0
    have kp : ¬ o.cnt 1 < 0 := by omega
    have k_B0_0 := B0.out.cell 0
    have k_B0_1 := B0.out.cell 1
    have k_B0_2 := B0.out.cell 2
    have k_Cwr0_0 := Cwr0.out.cell 0
    have k_Cwr0_1 := Cwr0.out.cell 1
    have k_Cwr0_2 := Cwr0.out.cell 2
    have k_X0_0 := X0.out.cell 0
    have k_X0_1 := X0.out.cell 1
    have k_X0_2 := X0.out.cell 2
    have k_Cgr0_0 := Cgr0.out.cell 0
    have k_Cgr0_1 := Cgr0.out.cell 1
    have k_Cgr0_2 := Cgr0.out.cell 2
    simp at k_B0_0 k_B0_1 k_B0_2 k_Cwr0_0 k_Cwr0_1 k_Cwr0_2 k_X0_0 k_X0_1 k_X0_2 k_Cgr0_0 k_Cgr0_1 k_Cgr0_2
    go_wp2_with fail
    clear k_B0_0 k_B0_1 k_B0_2 k_Cwr0_0 k_Cwr0_1 k_Cwr0_2 k_X0_0 k_X0_1 k_X0_2 k_Cgr0_0 k_Cgr0_1 k_Cgr0_2
    refine (eqOram_k r0 _ _ _ Ogr0.out.rd Owr0.out.rd HL0.out).mono ?_
    rintro e y ⟨rfl, g⟩
    have E := Lib.hid (Blk.grow B0.out g)
    clear B0
    have B0 := E
    clear E
    have E := Lib.hid (Blk.grow Cwr0.out g)
    clear Cwr0
    have Cwr0 := E
    clear E
    have E := Lib.hid (Blk.grow X0.out g)
    clear X0
    have X0 := E
    clear E
    have E := Lib.hid (Blk.grow Cgr0.out g)
    clear Cgr0
    have Cgr0 := E
    clear E
    have E := Lib.hid (AggO.grow Owr0.out g)
    clear Owr0
    have Owr0 := E
    clear E
    have E := Lib.hid (AggO.grow Ogr0.out g)
    clear Ogr0
    have Ogr0 := E
    clear E
    have z12 := World.grownBy.size g
    try simp at z12
    have E := Lib.hid (gbT G.out g)
    clear G
    have G := E
    clear E
    clear g
    have k_B0_0 := B0.out.cell 0
    have k_B0_1 := B0.out.cell 1
    have k_B0_2 := B0.out.cell 2
    have k_Cwr0_0 := Cwr0.out.cell 0
    have k_Cwr0_1 := Cwr0.out.cell 1
    have k_Cwr0_2 := Cwr0.out.cell 2
    have k_X0_0 := X0.out.cell 0
    have k_X0_1 := X0.out.cell 1
    have k_X0_2 := X0.out.cell 2
    have k_Cgr0_0 := Cgr0.out.cell 0
    have k_Cgr0_1 := Cgr0.out.cell 1
    have k_Cgr0_2 := Cgr0.out.cell 2
    simp at k_B0_0 k_B0_1 k_B0_2 k_Cwr0_0 k_Cwr0_1 k_Cwr0_2 k_X0_0 k_X0_1 k_X0_2 k_Cgr0_0 k_Cgr0_1 k_Cgr0_2
    go_wp2_with fail
    clear k_B0_0 k_B0_1 k_B0_2 k_Cwr0_0 k_Cwr0_1 k_Cwr0_2 k_X0_0 k_X0_1 k_X0_2 k_Cgr0_0 k_Cgr0_1 k_Cgr0_2
    refine (markOram_k r0 _ Fgr0 1 _ Ogr0.out HL0.out (by omega) (by omega)).mono ?_
    rintro e y ⟨rfl, oo, cc⟩
    clear Ogr0
    have Ogr0 := Lib.hid oo
    clear oo
    have E := Lib.hid (blk_chg B0.out cc (fun hg => by have h1 := Lgr0.out _ hg; have h2 := Ugr0.out _ hg; omega))
    clear B0
    have B0 := E
    clear E
    have E := Lib.hid (blk_chg Cwr0.out cc (fun hg => by have h1 := Lgr0.out _ hg; have h2 := Ugr0.out _ hg; omega))
    clear Cwr0
    have Cwr0 := E
    clear E
    have E := Lib.hid (blk_chg X0.out cc (fun hg => by have h1 := Lgr0.out _ hg; have h2 := Ugr0.out _ hg; omega))
    clear X0
    have X0 := E
    clear E
    have E := Lib.hid (blk_chg Cgr0.out cc (fun hg => by have h1 := Lgr0.out _ hg; have h2 := Ugr0.out _ hg; omega))
    clear Cgr0
    have Cgr0 := E
    clear E
    have E := Lib.hid (AggO.chg Owr0.out cc (fun g hg hx => by have h1 := Lwr0.out g hg; have h2 := Uwr0.out g hg; have h3 := Lgr0.out g hx; have h4 := Ugr0.out g hx; omega))
    clear Owr0
    have Owr0 := E
    clear E
    have z13 := Chg.size cc
    try simp at z13
    have E := Lib.hid (Chg.new G.out cc (fun g hg => by have h1 := Lgr0.out g hg; omega))
    clear G
    have G := E
    clear E
    clear cc
    have k_B0_0 := B0.out.cell 0
    have k_B0_1 := B0.out.cell 1
    have k_B0_2 := B0.out.cell 2
    have k_Cwr0_0 := Cwr0.out.cell 0
    have k_Cwr0_1 := Cwr0.out.cell 1
    have k_Cwr0_2 := Cwr0.out.cell 2
    have k_X0_0 := X0.out.cell 0
    have k_X0_1 := X0.out.cell 1
    have k_X0_2 := X0.out.cell 2
    have k_Cgr0_0 := Cgr0.out.cell 0
    have k_Cgr0_1 := Cgr0.out.cell 1
    have k_Cgr0_2 := Cgr0.out.cell 2
    simp at k_B0_0 k_B0_1 k_B0_2 k_Cwr0_0 k_Cwr0_1 k_Cwr0_2 k_X0_0 k_X0_1 k_X0_2 k_Cgr0_0 k_Cgr0_1 k_Cgr0_2
    go_wp2_with fail
    clear k_B0_0 k_B0_1 k_B0_2 k_Cwr0_0 k_Cwr0_1 k_Cwr0_2 k_X0_0 k_X0_1 k_X0_2 k_Cgr0_0 k_Cgr0_1 k_Cgr0_2
    refine (heldOram_k r0 _ 1 _ Ogr0.out.rd HL0.out (by omega) (by omega)).mono ?_
    rintro e y ⟨rfl, g⟩
    have E := Lib.hid (Blk.grow B0.out g)
    clear B0
    have B0 := E
    clear E
    have E := Lib.hid (Blk.grow Cwr0.out g)
    clear Cwr0
    have Cwr0 := E
    clear E
    have E := Lib.hid (Blk.grow X0.out g)
    clear X0
    have X0 := E
    clear E
    have E := Lib.hid (Blk.grow Cgr0.out g)
    clear Cgr0
    have Cgr0 := E
    clear E
    have E := Lib.hid (AggO.grow Owr0.out g)
    clear Owr0
    have Owr0 := E
    clear E
    have E := Lib.hid (AggO.grow Ogr0.out g)
    clear Ogr0
    have Ogr0 := E
    clear E
    have z14 := World.grownBy.size g
    try simp at z14
    have E := Lib.hid (gbT G.out g)
    clear G
    have G := E
    clear E
    clear g
    have khr0 : ¬ r0.cnt 1 < 0 := by omega
    have k_B0_0 := B0.out.cell 0
    have k_B0_1 := B0.out.cell 1
    have k_B0_2 := B0.out.cell 2
    have k_Cwr0_0 := Cwr0.out.cell 0
    have k_Cwr0_1 := Cwr0.out.cell 1
    have k_Cwr0_2 := Cwr0.out.cell 2
    have k_X0_0 := X0.out.cell 0
    have k_X0_1 := X0.out.cell 1
    have k_X0_2 := X0.out.cell 2
    have k_Cgr0_0 := Cgr0.out.cell 0
    have k_Cgr0_1 := Cgr0.out.cell 1
    have k_Cgr0_2 := Cgr0.out.cell 2
    simp at k_B0_0 k_B0_1 k_B0_2 k_Cwr0_0 k_Cwr0_1 k_Cwr0_2 k_X0_0 k_X0_1 k_X0_2 k_Cgr0_0 k_Cgr0_1 k_Cgr0_2
    go_wp2_with fail
    clear k_B0_0 k_B0_1 k_B0_2 k_Cwr0_0 k_Cwr0_1 k_Cwr0_2 k_X0_0 k_X0_1 k_X0_2 k_Cgr0_0 k_Cgr0_1 k_Cgr0_2
    clear khr0
    refine (toOram_k o _ _ (AggR.grow HA0.out G.out) HZ0.out).mono ?_
    rintro e y ⟨uu, Fh0, rfl, oo, ll, g⟩
    obtain ⟨ah0_0, nh0_0, sh0_0, ah0_1, nh0_1, sh0_1, ah0_2, nh0_2, sh0_2, rfl⟩ := coram_oform oo
    try simp at ll
    have Oh0 := Lib.hid oo
    have Lh0 := Lib.hid ll
    have Uh0 := Lib.hid (AggO.lt oo)
    have E := Lib.hid (Blk.grow B0.out g)
    clear B0
    have B0 := E
    clear E
    have E := Lib.hid (Blk.grow Cwr0.out g)
    clear Cwr0
    have Cwr0 := E
    clear E
    have E := Lib.hid (Blk.grow X0.out g)
    clear X0
    have X0 := E
    clear E
    have E := Lib.hid (Blk.grow Cgr0.out g)
    clear Cgr0
    have Cgr0 := E
    clear E
    have E := Lib.hid (AggO.grow Owr0.out g)
    clear Owr0
    have Owr0 := E
    clear E
    have E := Lib.hid (AggO.grow Ogr0.out g)
    clear Ogr0
    have Ogr0 := E
    clear E
    have z15 := World.grownBy.size g
    try simp at z15
    have E := Lib.hid (gbT G.out g)
    clear G
    have G := E
    clear E
    clear g oo ll
    have k_B0_0 := B0.out.cell 0
    have k_B0_1 := B0.out.cell 1
    have k_B0_2 := B0.out.cell 2
    have k_Cwr0_0 := Cwr0.out.cell 0
    have k_Cwr0_1 := Cwr0.out.cell 1
    have k_Cwr0_2 := Cwr0.out.cell 2
    have k_X0_0 := X0.out.cell 0
    have k_X0_1 := X0.out.cell 1
    have k_X0_2 := X0.out.cell 2
    have k_Cgr0_0 := Cgr0.out.cell 0
    have k_Cgr0_1 := Cgr0.out.cell 1
    have k_Cgr0_2 := Cgr0.out.cell 2
    simp at k_B0_0 k_B0_1 k_B0_2 k_Cwr0_0 k_Cwr0_1 k_Cwr0_2 k_X0_0 k_X0_1 k_X0_2 k_Cgr0_0 k_Cgr0_1 k_Cgr0_2
    go_wp2_with fail
    clear k_B0_0 k_B0_1 k_B0_2 k_Cwr0_0 k_Cwr0_1 k_Cwr0_2 k_X0_0 k_X0_1 k_X0_2 k_Cgr0_0 k_Cgr0_1 k_Cgr0_2
    refine (HI.out _ _ Oh0.out.rd).mono ?_
    rintro e y ⟨Vhr0, Fhr0, rfl, ohr0, lhr0, g⟩
    obtain ⟨ahr0_0, nhr0_0, shr0_0, ahr0_1, nhr0_1, shr0_1, ahr0_2, nhr0_2, shr0_2, rfl⟩ := coram_oform ohr0
    try simp at lhr0
    have Ohr0 := Lib.hid ohr0
    have Lhr0 := Lib.hid lhr0
    have Uhr0 := Lib.hid (AggO.lt ohr0)
    have E := Lib.hid (Blk.grow B0.out g)
    clear B0
    have B0 := E
    clear E
    have E := Lib.hid (Blk.grow Cwr0.out g)
    clear Cwr0
    have Cwr0 := E
    clear E
    have E := Lib.hid (Blk.grow X0.out g)
    clear X0
    have X0 := E
    clear E
    have E := Lib.hid (Blk.grow Cgr0.out g)
    clear Cgr0
    have Cgr0 := E
    clear E
    have E := Lib.hid (AggO.grow Owr0.out g)
    clear Owr0
    have Owr0 := E
    clear E
    have E := Lib.hid (AggO.grow Ogr0.out g)
    clear Ogr0
    have Ogr0 := E
    clear E
    have E := Lib.hid (AggO.grow Oh0.out g)
    clear Oh0
    have Oh0 := E
    clear E
    have z16 := World.grownBy.size g
    try simp at z16
    have E := Lib.hid (gbT G.out g)
    clear G
    have G := E
    clear E
    clear g ohr0 lhr0
    clear Oh0 Lh0 Uh0
    have k_B0_0 := B0.out.cell 0
    have k_B0_1 := B0.out.cell 1
    have k_B0_2 := B0.out.cell 2
    have k_Cwr0_0 := Cwr0.out.cell 0
    have k_Cwr0_1 := Cwr0.out.cell 1
    have k_Cwr0_2 := Cwr0.out.cell 2
    have k_X0_0 := X0.out.cell 0
    have k_X0_1 := X0.out.cell 1
    have k_X0_2 := X0.out.cell 2
    have k_Cgr0_0 := Cgr0.out.cell 0
    have k_Cgr0_1 := Cgr0.out.cell 1
    have k_Cgr0_2 := Cgr0.out.cell 2
    simp at k_B0_0 k_B0_1 k_B0_2 k_Cwr0_0 k_Cwr0_1 k_Cwr0_2 k_X0_0 k_X0_1 k_X0_2 k_Cgr0_0 k_Cgr0_1 k_Cgr0_2
    have qk_B0_0 := fun o => kA k_B0_0 o
    have qk_B0_1 := fun o => kA k_B0_1 o
    have qk_B0_2 := fun o => kA k_B0_2 o
    have qk_Cwr0_0 := fun o => kA k_Cwr0_0 o
    have qk_Cwr0_1 := fun o => kA k_Cwr0_1 o
    have qk_Cwr0_2 := fun o => kA k_Cwr0_2 o
    have qk_X0_0 := fun o => kA k_X0_0 o
    have qk_X0_1 := fun o => kA k_X0_1 o
    have qk_X0_2 := fun o => kA k_X0_2 o
    have qk_Cgr0_0 := fun o => kA k_Cgr0_0 o
    have qk_Cgr0_1 := fun o => kA k_Cgr0_1 o
    have qk_Cgr0_2 := fun o => kA k_Cgr0_2 o
    have lt_B0 := B0.out.lt
    have lt_Cwr0 := Cwr0.out.lt
    have lt_X0 := X0.out.lt
    have lt_Cgr0 := Cgr0.out.lt
    go_wp2_with fail
    clear k_B0_0 k_B0_1 k_B0_2 k_Cwr0_0 k_Cwr0_1 k_Cwr0_2 k_X0_0 k_X0_1 k_X0_2 k_Cgr0_0 k_Cgr0_1 k_Cgr0_2 qk_B0_0 qk_B0_1 qk_B0_2 qk_Cwr0_0 qk_Cwr0_1 qk_Cwr0_2 qk_X0_0 qk_X0_1 qk_X0_2 qk_Cgr0_0 qk_Cgr0_1 qk_Cgr0_2 lt_B0 lt_Cwr0 lt_X0 lt_Cgr0
    have X := Lib.hid (Blk.new y 36 #[.slice ahr0_0 nhr0_0 shr0_0, .slice ahr0_1 nhr0_1 shr0_1, .slice ahr0_2 nhr0_2 shr0_2])
    have ga : y.grownBy (y.alloc (.cells #[.slice ahr0_0 nhr0_0 shr0_0, .slice ahr0_1 nhr0_1 shr0_1, .slice ahr0_2 nhr0_2 shr0_2] 36)) none := gbA (gbR y none) _
    have E := Lib.hid (Blk.grow B0.out ga)
    clear B0
    have B0 := E
    clear E
    have E := Lib.hid (Blk.grow Cwr0.out ga)
    clear Cwr0
    have Cwr0 := E
    clear E
    have E := Lib.hid (Blk.grow X0.out ga)
    clear X0
    have X0 := E
    clear E
    have E := Lib.hid (Blk.grow Cgr0.out ga)
    clear Cgr0
    have Cgr0 := E
    clear E
    have E := Lib.hid (AggO.grow Owr0.out ga)
    clear Owr0
    have Owr0 := E
    clear E
    have E := Lib.hid (AggO.grow Ogr0.out ga)
    clear Ogr0
    have Ogr0 := E
    clear E
    have E := Lib.hid (AggO.grow Ohr0.out ga)
    clear Ohr0
    have Ohr0 := E
    clear E
    have z17 := World.grownBy.size ga
    try simp at z17
    have E := Lib.hid (gbT G.out ga)
    clear G
    have G := E
    clear E
    clear ga
    have Chr0 := X
    clear X
    refine (eqOram_k r0 _ _ _ Ohr0.out.rd Owr0.out.rd HL0.out).mono ?_
    rintro e y ⟨rfl, g⟩
    have E := Lib.hid (Blk.grow B0.out g)
    clear B0
    have B0 := E
    clear E
    have E := Lib.hid (Blk.grow Cwr0.out g)
    clear Cwr0
    have Cwr0 := E
    clear E
    have E := Lib.hid (Blk.grow X0.out g)
    clear X0
    have X0 := E
    clear E
    have E := Lib.hid (Blk.grow Cgr0.out g)
    clear Cgr0
    have Cgr0 := E
    clear E
    have E := Lib.hid (Blk.grow Chr0.out g)
    clear Chr0
    have Chr0 := E
    clear E
    have E := Lib.hid (AggO.grow Owr0.out g)
    clear Owr0
    have Owr0 := E
    clear E
    have E := Lib.hid (AggO.grow Ogr0.out g)
    clear Ogr0
    have Ogr0 := E
    clear E
    have E := Lib.hid (AggO.grow Ohr0.out g)
    clear Ohr0
    have Ohr0 := E
    clear E
    have z18 := World.grownBy.size g
    try simp at z18
    have E := Lib.hid (gbT G.out g)
    clear G
    have G := E
    clear E
    clear g
    have k_B0_0 := B0.out.cell 0
    have k_B0_1 := B0.out.cell 1
    have k_B0_2 := B0.out.cell 2
    have k_Cwr0_0 := Cwr0.out.cell 0
    have k_Cwr0_1 := Cwr0.out.cell 1
    have k_Cwr0_2 := Cwr0.out.cell 2
    have k_X0_0 := X0.out.cell 0
    have k_X0_1 := X0.out.cell 1
    have k_X0_2 := X0.out.cell 2
    have k_Cgr0_0 := Cgr0.out.cell 0
    have k_Cgr0_1 := Cgr0.out.cell 1
    have k_Cgr0_2 := Cgr0.out.cell 2
    have k_Chr0_0 := Chr0.out.cell 0
    have k_Chr0_1 := Chr0.out.cell 1
    have k_Chr0_2 := Chr0.out.cell 2
    simp at k_B0_0 k_B0_1 k_B0_2 k_Cwr0_0 k_Cwr0_1 k_Cwr0_2 k_X0_0 k_X0_1 k_X0_2 k_Cgr0_0 k_Cgr0_1 k_Cgr0_2 k_Chr0_0 k_Chr0_1 k_Chr0_2
    go_wp2_with fail
    clear k_B0_0 k_B0_1 k_B0_2 k_Cwr0_0 k_Cwr0_1 k_Cwr0_2 k_X0_0 k_X0_1 k_X0_2 k_Cgr0_0 k_Cgr0_1 k_Cgr0_2 k_Chr0_0 k_Chr0_1 k_Chr0_2
    refine (heldOram_k r0 _ 1 _ Ogr0.out.rd HL0.out (by omega) (by omega)).mono ?_
    rintro e y ⟨rfl, g⟩
    have E := Lib.hid (Blk.grow B0.out g)
    clear B0
    have B0 := E
    clear E
    have E := Lib.hid (Blk.grow Cwr0.out g)
    clear Cwr0
    have Cwr0 := E
    clear E
    have E := Lib.hid (Blk.grow X0.out g)
    clear X0
    have X0 := E
    clear E
    have E := Lib.hid (Blk.grow Cgr0.out g)
    clear Cgr0
    have Cgr0 := E
    clear E
    have E := Lib.hid (Blk.grow Chr0.out g)
    clear Chr0
    have Chr0 := E
    clear E
    have E := Lib.hid (AggO.grow Owr0.out g)
    clear Owr0
    have Owr0 := E
    clear E
    have E := Lib.hid (AggO.grow Ogr0.out g)
    clear Ogr0
    have Ogr0 := E
    clear E
    have E := Lib.hid (AggO.grow Ohr0.out g)
    clear Ohr0
    have Ohr0 := E
    clear E
    have z19 := World.grownBy.size g
    try simp at z19
    have E := Lib.hid (gbT G.out g)
    clear G
    have G := E
    clear E
    clear g
    have khr0 : ¬ r0.cnt 1 < 0 := by omega
    have k_B0_0 := B0.out.cell 0
    have k_B0_1 := B0.out.cell 1
    have k_B0_2 := B0.out.cell 2
    have k_Cwr0_0 := Cwr0.out.cell 0
    have k_Cwr0_1 := Cwr0.out.cell 1
    have k_Cwr0_2 := Cwr0.out.cell 2
    have k_X0_0 := X0.out.cell 0
    have k_X0_1 := X0.out.cell 1
    have k_X0_2 := X0.out.cell 2
    have k_Cgr0_0 := Cgr0.out.cell 0
    have k_Cgr0_1 := Cgr0.out.cell 1
    have k_Cgr0_2 := Cgr0.out.cell 2
    have k_Chr0_0 := Chr0.out.cell 0
    have k_Chr0_1 := Chr0.out.cell 1
    have k_Chr0_2 := Chr0.out.cell 2
    simp at k_B0_0 k_B0_1 k_B0_2 k_Cwr0_0 k_Cwr0_1 k_Cwr0_2 k_X0_0 k_X0_1 k_X0_2 k_Cgr0_0 k_Cgr0_1 k_Cgr0_2 k_Chr0_0 k_Chr0_1 k_Chr0_2
    go_wp2_with fail
    clear k_B0_0 k_B0_1 k_B0_2 k_Cwr0_0 k_Cwr0_1 k_Cwr0_2 k_X0_0 k_X0_1 k_X0_2 k_Cgr0_0 k_Cgr0_1 k_Cgr0_2 k_Chr0_0 k_Chr0_1 k_Chr0_2
    clear khr0
    go_ret
    exact ⟨rfl, G.out⟩
theorem FnExactOramAccess.walk (w : World) (m : OM) (v : Value) (h : AggR w (coram m) v) (wf : m.wf) (d : Int) (wd : (Lit.int .i64 d).wf = true) (wr : Bool) (x : Int) (wx : (Lit.int .i64 x).wf = true) (l : Int) (wl : (Lit.int .i64 l).wf = true) :
    Calls Try.prog 11 #[v, .int .i64 d, .bool wr, .int .i64 x, .int .i64 l] w fun e w' => e = .returned (.bool true) ∧ w.grownBy w' none := by
  by_cases hz : m.sz ≤ 1048576
  · exact (FnExactOramAccess.core m d wr x l (accR m d wr x l) (if accB m d x l then accV m d else 0) (if accB m d x l then m.leaf d else 0) (accB m d x l) w v h hz (accR_sz hz) (fun w v h => specOramAccess_x m v d x l wr w h hz) (fun w v h => implOramAccess_x m v d x l wr w h hz))
  · have HZ := Lib.hid (szO_no (Nat.lt_of_not_le hz))
    have HA := Lib.hid h
    obtain ⟨u0, u1, u2, rfl, _, _, _⟩ := coram_open h
    clear h hz
    go_enter Try.func11, Try.ntmps11
    go_wp2_with fail
    refine (szOram_k m _ 1048576 _ (AggR.grow HA.out (gbA (gbR w none) _)) (by omega)).mono ?_
    rintro e y ⟨rfl, g⟩
    rw [HZ.out]
    have G := Lib.hid (gbT (gbA (gbR w none) _) g)
    clear g
    go_wp2_with fail
    go_ret
    exact ⟨rfl, G.out⟩
end Go.Proofs.Ythncoohkdmjcaaa
