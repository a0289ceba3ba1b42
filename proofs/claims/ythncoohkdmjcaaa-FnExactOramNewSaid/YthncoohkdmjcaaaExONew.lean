/-
  Exact laws (cores printed by wip/gen_exact.py).
-/
import Derived.Test.YthncoohkdmjcaaaOramNew
namespace Go.Proofs.Ythncoohkdmjcaaa
open Go.RowKit
set_option linter.unusedVariables false
set_option maxRecDepth 100000 in
set_option maxHeartbeats 4000000 in
theorem FnExactOramNew.core (l : List Int) (r0 : OM) (r1 : Bool) (w : World) (v0 : Value) (ha0 : (cints l).rd w v0) (hz0 : l.length ≤ 1048576) (hs0 : r0.sz ≤ 1048576)
    (hs : ∀ (w : World) (v0 : Value), (cints l).rd w v0 → Calls Try.prog 27 #[v0] w fun e w' => ∃ Vr0 Fr0, e = .returned (.tuple #[Vr0, .bool r1]) ∧ AggO w' (coram r0) Fr0 Vr0 ∧ (∀ g ∈ Fr0, w.heap.size ≤ g) ∧ w.grownBy w' none)
    (hi : ∀ (w : World) (v0 : Value), (cints l).rd w v0 → Calls Try.prog 29 #[v0] w fun e w' => ∃ Vr0 Fr0, e = .returned (.tuple #[Vr0, .bool r1]) ∧ AggO w' (coram r0) Fr0 Vr0 ∧ (∀ g ∈ Fr0, w.heap.size ≤ g) ∧ w.grownBy w' none) :
    Calls Try.prog 5 #[v0] w fun e w' => e = .returned (.bool true) ∧ w.grownBy w' none := by
  have HS := Lib.hid hs
  have HI := Lib.hid hi
  obtain ⟨pa0, pc0, rfl, _, _, _⟩ := cints_rd ha0
  have hb0 : ¬ (1048576 : Int) < (l.length : Int) := by omega
  have HA0 := Lib.hid ha0
  have HZ0 := Lib.hid hz0
  have kr0 : 1 ≤ r0.cnt 1 ∧ r0.cnt 1 ≤ 16777216 := by
    unfold OM.cnt
    have kb := cntB_bd (xss := r0.bk) (by unfold OM.sz at hs0; omega)
    unfold OM.sz szB at hs0
    omega
  have HL0 := Lib.hid hs0
  clear hs hi ha0 hz0
  have G := Lib.hid (gbR w none)
  go_enter Try.func5, Try.ntmps5
  have z0 : w.heap.size ≤ w.heap.size := Nat.le_refl _
  go_wp2_with fail
  refine (toIntS_k l _ _ (CS.grow _ HA0.out G.out) HZ0.out).mono ?_
  rintro e y ⟨uu, Fw0, rfl, oo, ll, g⟩
  obtain ⟨aw0, nw0, sw0, rfl⟩ := row_form oo
  try simp at ll
  have Ow0 := Lib.hid oo
  have Lw0 := Lib.hid ll
  have Uw0 := Lib.hid (CS.lt _ oo)
  have z1 := World.grownBy.size g
  try simp at z1
  have E := Lib.hid (gbT G.out g)
  clear G
  have G := E
  clear E
  clear g oo ll
  go_wp2_with fail
  refine (HS.out _ _ (CS.toRd _ Ow0.out)).mono ?_
  rintro e y ⟨Vwr0, Fwr0, rfl, owr0, lwr0, g⟩
  obtain ⟨awr0_0, nwr0_0, swr0_0, awr0_1, nwr0_1, swr0_1, awr0_2, nwr0_2, swr0_2, rfl⟩ := coram_oform owr0
  try simp at lwr0
  have Owr0 := Lib.hid owr0
  have Lwr0 := Lib.hid lwr0
  have Uwr0 := Lib.hid (AggO.lt owr0)
  have E := Lib.hid (own_growK _ Ow0.out g)
  clear Ow0
  have Ow0 := E
  clear E
  have z2 := World.grownBy.size g
  try simp at z2
  have E := Lib.hid (gbT G.out g)
  clear G
  have G := E
  clear E
  clear g owr0 lwr0
  clear Ow0 Lw0 Uw0
  go_wp2_with fail
  have X := Lib.hid (Blk.new y 36 #[.slice awr0_0 nwr0_0 swr0_0, .slice awr0_1 nwr0_1 swr0_1, .slice awr0_2 nwr0_2 swr0_2])
  have ga : y.grownBy (y.alloc (.cells #[.slice awr0_0 nwr0_0 swr0_0, .slice awr0_1 nwr0_1 swr0_1, .slice awr0_2 nwr0_2 swr0_2] 36)) none := gbA (gbR y none) _
  have E := Lib.hid (AggO.grow Owr0.out ga)
  clear Owr0
  have Owr0 := E
  clear E
  have z3 := World.grownBy.size ga
  try simp at z3
  have E := Lib.hid (gbT G.out ga)
  clear G
  have G := E
  clear E
  clear ga
  have Cwr0 := X
  clear X
  refine (toIntS_k l _ _ (CS.grow _ HA0.out G.out) HZ0.out).mono ?_
  rintro e y ⟨uu, Fx0, rfl, oo, ll, g⟩
  obtain ⟨ax0, nx0, sx0, rfl⟩ := row_form oo
  try simp at ll
  have Ox0 := Lib.hid oo
  have Lx0 := Lib.hid ll
  have Ux0 := Lib.hid (CS.lt _ oo)
  have E := Lib.hid (Blk.grow Cwr0.out g)
  clear Cwr0
  have Cwr0 := E
  clear E
  have E := Lib.hid (AggO.grow Owr0.out g)
  clear Owr0
  have Owr0 := E
  clear E
  have z4 := World.grownBy.size g
  try simp at z4
  have E := Lib.hid (gbT G.out g)
  clear G
  have G := E
  clear E
  clear g oo ll
  have k_Cwr0_0 := Cwr0.out.cell 0
  have k_Cwr0_1 := Cwr0.out.cell 1
  have k_Cwr0_2 := Cwr0.out.cell 2
  simp at k_Cwr0_0 k_Cwr0_1 k_Cwr0_2
  go_wp2_with fail
  clear k_Cwr0_0 k_Cwr0_1 k_Cwr0_2
  refine (HI.out _ _ (CS.toRd _ Ox0.out)).mono ?_
  rintro e y ⟨Vgr0, Fgr0, rfl, ogr0, lgr0, g⟩
  obtain ⟨agr0_0, ngr0_0, sgr0_0, agr0_1, ngr0_1, sgr0_1, agr0_2, ngr0_2, sgr0_2, rfl⟩ := coram_oform ogr0
  try simp at lgr0
  have Ogr0 := Lib.hid ogr0
  have Lgr0 := Lib.hid lgr0
  have Ugr0 := Lib.hid (AggO.lt ogr0)
  have E := Lib.hid (Blk.grow Cwr0.out g)
  clear Cwr0
  have Cwr0 := E
  clear E
  have E := Lib.hid (AggO.grow Owr0.out g)
  clear Owr0
  have Owr0 := E
  clear E
  have E := Lib.hid (own_growK _ Ox0.out g)
  clear Ox0
  have Ox0 := E
  clear E
  have z5 := World.grownBy.size g
  try simp at z5
  have E := Lib.hid (gbT G.out g)
  clear G
  have G := E
  clear E
  clear g ogr0 lgr0
  have k_Cwr0_0 := Cwr0.out.cell 0
  have k_Cwr0_1 := Cwr0.out.cell 1
  have k_Cwr0_2 := Cwr0.out.cell 2
  simp at k_Cwr0_0 k_Cwr0_1 k_Cwr0_2
  have qk_Cwr0_0 := fun o => kA k_Cwr0_0 o
  have qk_Cwr0_1 := fun o => kA k_Cwr0_1 o
  have qk_Cwr0_2 := fun o => kA k_Cwr0_2 o
  have lt_Cwr0 := Cwr0.out.lt
  go_wp2_with fail
  clear k_Cwr0_0 k_Cwr0_1 k_Cwr0_2 qk_Cwr0_0 qk_Cwr0_1 qk_Cwr0_2 lt_Cwr0
  have X := Lib.hid (Blk.new y 36 #[.slice agr0_0 ngr0_0 sgr0_0, .slice agr0_1 ngr0_1 sgr0_1, .slice agr0_2 ngr0_2 sgr0_2])
  have ga : y.grownBy (y.alloc (.cells #[.slice agr0_0 ngr0_0 sgr0_0, .slice agr0_1 ngr0_1 sgr0_1, .slice agr0_2 ngr0_2 sgr0_2] 36)) none := gbA (gbR y none) _
  have E := Lib.hid (Blk.grow Cwr0.out ga)
  clear Cwr0
  have Cwr0 := E
  clear E
  have E := Lib.hid (AggO.grow Owr0.out ga)
  clear Owr0
  have Owr0 := E
  clear E
  have E := Lib.hid (own_growK _ Ox0.out ga)
  clear Ox0
  have Ox0 := E
  clear E
  have E := Lib.hid (AggO.grow Ogr0.out ga)
  clear Ogr0
  have Ogr0 := E
  clear E
  have z6 := World.grownBy.size ga
  try simp at z6
  have E := Lib.hid (gbT G.out ga)
  clear G
  have G := E
  clear E
  clear ga
  have Cgr0 := X
  clear X
  refine (eqOram_k r0 _ _ _ Ogr0.out.rd Owr0.out.rd HL0.out).mono ?_
  rintro e y ⟨rfl, g⟩
  have E := Lib.hid (Blk.grow Cwr0.out g)
  clear Cwr0
  have Cwr0 := E
  clear E
  have E := Lib.hid (Blk.grow Cgr0.out g)
  clear Cgr0
  have Cgr0 := E
  clear E
  have E := Lib.hid (AggO.grow Owr0.out g)
  clear Owr0
  have Owr0 := E
  clear E
  have E := Lib.hid (own_growK _ Ox0.out g)
  clear Ox0
  have Ox0 := E
  clear E
  have E := Lib.hid (AggO.grow Ogr0.out g)
  clear Ogr0
  have Ogr0 := E
  clear E
  have z7 := World.grownBy.size g
  try simp at z7
  have E := Lib.hid (gbT G.out g)
  clear G
  have G := E
  clear E
  clear g
  have k_Cwr0_0 := Cwr0.out.cell 0
  have k_Cwr0_1 := Cwr0.out.cell 1
  have k_Cwr0_2 := Cwr0.out.cell 2
  have k_Cgr0_0 := Cgr0.out.cell 0
  have k_Cgr0_1 := Cgr0.out.cell 1
  have k_Cgr0_2 := Cgr0.out.cell 2
  simp at k_Cwr0_0 k_Cwr0_1 k_Cwr0_2 k_Cgr0_0 k_Cgr0_1 k_Cgr0_2
  go_wp2_with fail
  clear k_Cwr0_0 k_Cwr0_1 k_Cwr0_2 k_Cgr0_0 k_Cgr0_1 k_Cgr0_2
  refine (toIntS_k l _ _ (CS.grow _ HA0.out G.out) HZ0.out).mono ?_
  rintro e y ⟨uu, Fy0, rfl, oo, ll, g⟩
  obtain ⟨ay0, ny0, sy0, rfl⟩ := row_form oo
  try simp at ll
  have Oy0 := Lib.hid oo
  have Ly0 := Lib.hid ll
  have Uy0 := Lib.hid (CS.lt _ oo)
  have E := Lib.hid (Blk.grow Cwr0.out g)
  clear Cwr0
  have Cwr0 := E
  clear E
  have E := Lib.hid (Blk.grow Cgr0.out g)
  clear Cgr0
  have Cgr0 := E
  clear E
  have E := Lib.hid (AggO.grow Owr0.out g)
  clear Owr0
  have Owr0 := E
  clear E
  have E := Lib.hid (own_growK _ Ox0.out g)
  clear Ox0
  have Ox0 := E
  clear E
  have E := Lib.hid (AggO.grow Ogr0.out g)
  clear Ogr0
  have Ogr0 := E
  clear E
  have z8 := World.grownBy.size g
  try simp at z8
  have E := Lib.hid (gbT G.out g)
  clear G
  have G := E
  clear E
  clear g oo ll
  have k_Cwr0_0 := Cwr0.out.cell 0
  have k_Cwr0_1 := Cwr0.out.cell 1
  have k_Cwr0_2 := Cwr0.out.cell 2
  have k_Cgr0_0 := Cgr0.out.cell 0
  have k_Cgr0_1 := Cgr0.out.cell 1
  have k_Cgr0_2 := Cgr0.out.cell 2
  simp at k_Cwr0_0 k_Cwr0_1 k_Cwr0_2 k_Cgr0_0 k_Cgr0_1 k_Cgr0_2
  go_wp2_with fail
  clear k_Cwr0_0 k_Cwr0_1 k_Cwr0_2 k_Cgr0_0 k_Cgr0_1 k_Cgr0_2
  refine (eqIntS_k l _ _ _ (CS.toRd _ Ox0.out) (CS.toRd _ Oy0.out) HZ0.out).mono ?_
  rintro e y ⟨rfl, g⟩
  have E := Lib.hid (Blk.grow Cwr0.out g)
  clear Cwr0
  have Cwr0 := E
  clear E
  have E := Lib.hid (Blk.grow Cgr0.out g)
  clear Cgr0
  have Cgr0 := E
  clear E
  have E := Lib.hid (AggO.grow Owr0.out g)
  clear Owr0
  have Owr0 := E
  clear E
  have E := Lib.hid (own_growK _ Ox0.out g)
  clear Ox0
  have Ox0 := E
  clear E
  have E := Lib.hid (AggO.grow Ogr0.out g)
  clear Ogr0
  have Ogr0 := E
  clear E
  have E := Lib.hid (own_growK _ Oy0.out g)
  clear Oy0
  have Oy0 := E
  clear E
  have z9 := World.grownBy.size g
  try simp at z9
  have E := Lib.hid (gbT G.out g)
  clear G
  have G := E
  clear E
  clear g
  clear Oy0 Ly0 Uy0
  have k_Cwr0_0 := Cwr0.out.cell 0
  have k_Cwr0_1 := Cwr0.out.cell 1
  have k_Cwr0_2 := Cwr0.out.cell 2
  have k_Cgr0_0 := Cgr0.out.cell 0
  have k_Cgr0_1 := Cgr0.out.cell 1
  have k_Cgr0_2 := Cgr0.out.cell 2
  simp at k_Cwr0_0 k_Cwr0_1 k_Cwr0_2 k_Cgr0_0 k_Cgr0_1 k_Cgr0_2
  go_wp2_with fail
  clear k_Cwr0_0 k_Cwr0_1 k_Cwr0_2 k_Cgr0_0 k_Cgr0_1 k_Cgr0_2
  refine (markIntS_k l _ Fx0 (1) _ Ox0.out HZ0.out (by omega) (by omega)).mono ?_
  rintro e y ⟨rfl, oo, cc⟩
  clear Ox0
  have Ox0 := Lib.hid oo
  clear oo
  have E := Lib.hid (blk_chg Cwr0.out cc (fun hg => by have h1 := Lx0.out _ hg; have h2 := Ux0.out _ hg; omega))
  clear Cwr0
  have Cwr0 := E
  clear E
  have E := Lib.hid (blk_chg Cgr0.out cc (fun hg => by have h1 := Lx0.out _ hg; have h2 := Ux0.out _ hg; omega))
  clear Cgr0
  have Cgr0 := E
  clear E
  have E := Lib.hid (AggO.chg Owr0.out cc (fun g hg hx => by have h1 := Lwr0.out g hg; have h2 := Uwr0.out g hg; have h3 := Lx0.out g hx; have h4 := Ux0.out g hx; omega))
  clear Owr0
  have Owr0 := E
  clear E
  have E := Lib.hid (AggO.chg Ogr0.out cc (fun g hg hx => by have h1 := Lgr0.out g hg; have h2 := Ugr0.out g hg; have h3 := Lx0.out g hx; have h4 := Ux0.out g hx; omega))
  clear Ogr0
  have Ogr0 := E
  clear E
  have z10 := Chg.size cc
  try simp at z10
  have E := Lib.hid (Chg.new G.out cc (fun g hg => by have h1 := Lx0.out g hg; omega))
  clear G
  have G := E
  clear E
  clear cc
  clear Ox0 Lx0 Ux0
  have kp : ¬ (1) + l.length < 0 := by omega
  have k_Cwr0_0 := Cwr0.out.cell 0
  have k_Cwr0_1 := Cwr0.out.cell 1
  have k_Cwr0_2 := Cwr0.out.cell 2
  have k_Cgr0_0 := Cgr0.out.cell 0
  have k_Cgr0_1 := Cgr0.out.cell 1
  have k_Cgr0_2 := Cgr0.out.cell 2
  simp at k_Cwr0_0 k_Cwr0_1 k_Cwr0_2 k_Cgr0_0 k_Cgr0_1 k_Cgr0_2
  go_wp2_with fail
  clear k_Cwr0_0 k_Cwr0_1 k_Cwr0_2 k_Cgr0_0 k_Cgr0_1 k_Cgr0_2
  refine (eqOram_k r0 _ _ _ Ogr0.out.rd Owr0.out.rd HL0.out).mono ?_
  rintro e y ⟨rfl, g⟩
  have E := Lib.hid (Blk.grow Cwr0.out g)
  clear Cwr0
  have Cwr0 := E
  clear E
  have E := Lib.hid (Blk.grow Cgr0.out g)
  clear Cgr0
  have Cgr0 := E
  clear E
  have E := Lib.hid (AggO.grow Owr0.out g)
  clear Owr0
  have Owr0 := E
  clear E
  have E := Lib.hid (AggO.grow Ogr0.out g)
  clear Ogr0
  have Ogr0 := E
  clear E
  have z11 := World.grownBy.size g
  try simp at z11
  have E := Lib.hid (gbT G.out g)
  clear G
  have G := E
  clear E
  clear g
  have k_Cwr0_0 := Cwr0.out.cell 0
  have k_Cwr0_1 := Cwr0.out.cell 1
  have k_Cwr0_2 := Cwr0.out.cell 2
  have k_Cgr0_0 := Cgr0.out.cell 0
  have k_Cgr0_1 := Cgr0.out.cell 1
  have k_Cgr0_2 := Cgr0.out.cell 2
  simp at k_Cwr0_0 k_Cwr0_1 k_Cwr0_2 k_Cgr0_0 k_Cgr0_1 k_Cgr0_2
  go_wp2_with fail
  clear k_Cwr0_0 k_Cwr0_1 k_Cwr0_2 k_Cgr0_0 k_Cgr0_1 k_Cgr0_2
  refine (markOram_k r0 _ Fgr0 1 _ Ogr0.out HL0.out (by omega) (by omega)).mono ?_
  rintro e y ⟨rfl, oo, cc⟩
  clear Ogr0
  have Ogr0 := Lib.hid oo
  clear oo
  have E := Lib.hid (blk_chg Cwr0.out cc (fun hg => by have h1 := Lgr0.out _ hg; have h2 := Ugr0.out _ hg; omega))
  clear Cwr0
  have Cwr0 := E
  clear E
  have E := Lib.hid (blk_chg Cgr0.out cc (fun hg => by have h1 := Lgr0.out _ hg; have h2 := Ugr0.out _ hg; omega))
  clear Cgr0
  have Cgr0 := E
  clear E
  have E := Lib.hid (AggO.chg Owr0.out cc (fun g hg hx => by have h1 := Lwr0.out g hg; have h2 := Uwr0.out g hg; have h3 := Lgr0.out g hx; have h4 := Ugr0.out g hx; omega))
  clear Owr0
  have Owr0 := E
  clear E
  have z12 := Chg.size cc
  try simp at z12
  have E := Lib.hid (Chg.new G.out cc (fun g hg => by have h1 := Lgr0.out g hg; omega))
  clear G
  have G := E
  clear E
  clear cc
  have k_Cwr0_0 := Cwr0.out.cell 0
  have k_Cwr0_1 := Cwr0.out.cell 1
  have k_Cwr0_2 := Cwr0.out.cell 2
  have k_Cgr0_0 := Cgr0.out.cell 0
  have k_Cgr0_1 := Cgr0.out.cell 1
  have k_Cgr0_2 := Cgr0.out.cell 2
  simp at k_Cwr0_0 k_Cwr0_1 k_Cwr0_2 k_Cgr0_0 k_Cgr0_1 k_Cgr0_2
  go_wp2_with fail
  clear k_Cwr0_0 k_Cwr0_1 k_Cwr0_2 k_Cgr0_0 k_Cgr0_1 k_Cgr0_2
  refine (heldOram_k r0 _ 1 _ Ogr0.out.rd HL0.out (by omega) (by omega)).mono ?_
  rintro e y ⟨rfl, g⟩
  have E := Lib.hid (Blk.grow Cwr0.out g)
  clear Cwr0
  have Cwr0 := E
  clear E
  have E := Lib.hid (Blk.grow Cgr0.out g)
  clear Cgr0
  have Cgr0 := E
  clear E
  have E := Lib.hid (AggO.grow Owr0.out g)
  clear Owr0
  have Owr0 := E
  clear E
  have E := Lib.hid (AggO.grow Ogr0.out g)
  clear Ogr0
  have Ogr0 := E
  clear E
  have z13 := World.grownBy.size g
  try simp at z13
  have E := Lib.hid (gbT G.out g)
  clear G
  have G := E
  clear E
  clear g
  have khr0 : ¬ r0.cnt 1 < 0 := by omega
  have k_Cwr0_0 := Cwr0.out.cell 0
  have k_Cwr0_1 := Cwr0.out.cell 1
  have k_Cwr0_2 := Cwr0.out.cell 2
  have k_Cgr0_0 := Cgr0.out.cell 0
  have k_Cgr0_1 := Cgr0.out.cell 1
  have k_Cgr0_2 := Cgr0.out.cell 2
  simp at k_Cwr0_0 k_Cwr0_1 k_Cwr0_2 k_Cgr0_0 k_Cgr0_1 k_Cgr0_2
  go_wp2_with fail
  clear k_Cwr0_0 k_Cwr0_1 k_Cwr0_2 k_Cgr0_0 k_Cgr0_1 k_Cgr0_2
  clear khr0
  refine (toIntS_k l _ _ (CS.grow _ HA0.out G.out) HZ0.out).mono ?_
  rintro e y ⟨uu, Fh0, rfl, oo, ll, g⟩
  obtain ⟨ah0, nh0, sh0, rfl⟩ := row_form oo
  try simp at ll
  have Oh0 := Lib.hid oo
  have Lh0 := Lib.hid ll
  have Uh0 := Lib.hid (CS.lt _ oo)
  have E := Lib.hid (Blk.grow Cwr0.out g)
  clear Cwr0
  have Cwr0 := E
  clear E
  have E := Lib.hid (Blk.grow Cgr0.out g)
  clear Cgr0
  have Cgr0 := E
  clear E
  have E := Lib.hid (AggO.grow Owr0.out g)
  clear Owr0
  have Owr0 := E
  clear E
  have E := Lib.hid (AggO.grow Ogr0.out g)
  clear Ogr0
  have Ogr0 := E
  clear E
  have z14 := World.grownBy.size g
  try simp at z14
  have E := Lib.hid (gbT G.out g)
  clear G
  have G := E
  clear E
  clear g oo ll
  have k_Cwr0_0 := Cwr0.out.cell 0
  have k_Cwr0_1 := Cwr0.out.cell 1
  have k_Cwr0_2 := Cwr0.out.cell 2
  have k_Cgr0_0 := Cgr0.out.cell 0
  have k_Cgr0_1 := Cgr0.out.cell 1
  have k_Cgr0_2 := Cgr0.out.cell 2
  simp at k_Cwr0_0 k_Cwr0_1 k_Cwr0_2 k_Cgr0_0 k_Cgr0_1 k_Cgr0_2
  go_wp2_with fail
  clear k_Cwr0_0 k_Cwr0_1 k_Cwr0_2 k_Cgr0_0 k_Cgr0_1 k_Cgr0_2
  refine (HI.out _ _ (CS.toRd _ Oh0.out)).mono ?_
  rintro e y ⟨Vhr0, Fhr0, rfl, ohr0, lhr0, g⟩
  obtain ⟨ahr0_0, nhr0_0, shr0_0, ahr0_1, nhr0_1, shr0_1, ahr0_2, nhr0_2, shr0_2, rfl⟩ := coram_oform ohr0
  try simp at lhr0
  have Ohr0 := Lib.hid ohr0
  have Lhr0 := Lib.hid lhr0
  have Uhr0 := Lib.hid (AggO.lt ohr0)
  have E := Lib.hid (Blk.grow Cwr0.out g)
  clear Cwr0
  have Cwr0 := E
  clear E
  have E := Lib.hid (Blk.grow Cgr0.out g)
  clear Cgr0
  have Cgr0 := E
  clear E
  have E := Lib.hid (AggO.grow Owr0.out g)
  clear Owr0
  have Owr0 := E
  clear E
  have E := Lib.hid (AggO.grow Ogr0.out g)
  clear Ogr0
  have Ogr0 := E
  clear E
  have E := Lib.hid (own_growK _ Oh0.out g)
  clear Oh0
  have Oh0 := E
  clear E
  have z15 := World.grownBy.size g
  try simp at z15
  have E := Lib.hid (gbT G.out g)
  clear G
  have G := E
  clear E
  clear g ohr0 lhr0
  clear Oh0 Lh0 Uh0
  have k_Cwr0_0 := Cwr0.out.cell 0
  have k_Cwr0_1 := Cwr0.out.cell 1
  have k_Cwr0_2 := Cwr0.out.cell 2
  have k_Cgr0_0 := Cgr0.out.cell 0
  have k_Cgr0_1 := Cgr0.out.cell 1
  have k_Cgr0_2 := Cgr0.out.cell 2
  simp at k_Cwr0_0 k_Cwr0_1 k_Cwr0_2 k_Cgr0_0 k_Cgr0_1 k_Cgr0_2
  have qk_Cwr0_0 := fun o => kA k_Cwr0_0 o
  have qk_Cwr0_1 := fun o => kA k_Cwr0_1 o
  have qk_Cwr0_2 := fun o => kA k_Cwr0_2 o
  have qk_Cgr0_0 := fun o => kA k_Cgr0_0 o
  have qk_Cgr0_1 := fun o => kA k_Cgr0_1 o
  have qk_Cgr0_2 := fun o => kA k_Cgr0_2 o
  have lt_Cwr0 := Cwr0.out.lt
  have lt_Cgr0 := Cgr0.out.lt
  go_wp2_with fail
  clear k_Cwr0_0 k_Cwr0_1 k_Cwr0_2 k_Cgr0_0 k_Cgr0_1 k_Cgr0_2 qk_Cwr0_0 qk_Cwr0_1 qk_Cwr0_2 qk_Cgr0_0 qk_Cgr0_1 qk_Cgr0_2 lt_Cwr0 lt_Cgr0
  have X := Lib.hid (Blk.new y 36 #[.slice ahr0_0 nhr0_0 shr0_0, .slice ahr0_1 nhr0_1 shr0_1, .slice ahr0_2 nhr0_2 shr0_2])
  have ga : y.grownBy (y.alloc (.cells #[.slice ahr0_0 nhr0_0 shr0_0, .slice ahr0_1 nhr0_1 shr0_1, .slice ahr0_2 nhr0_2 shr0_2] 36)) none := gbA (gbR y none) _
  have E := Lib.hid (Blk.grow Cwr0.out ga)
  clear Cwr0
  have Cwr0 := E
  clear E
  have E := Lib.hid (Blk.grow Cgr0.out ga)
  clear Cgr0
  have Cgr0 := E
  clear E
  have E := Lib.hid (AggO.grow Owr0.out ga)
  clear Owr0
  have Owr0 := E
  clear E
  have E := Lib.hid (AggO.grow Ogr0.out ga)
  clear Ogr0
  have Ogr0 := E
  clear E
  have E := Lib.hid (AggO.grow Ohr0.out ga)
  clear Ohr0
  have Ohr0 := E
  clear E
  have z16 := World.grownBy.size ga
  try simp at z16
  have E := Lib.hid (gbT G.out ga)
  clear G
  have G := E
  clear E
  clear ga
  have Chr0 := X
  clear X
  refine (eqOram_k r0 _ _ _ Ohr0.out.rd Owr0.out.rd HL0.out).mono ?_
  rintro e y ⟨rfl, g⟩
  have E := Lib.hid (Blk.grow Cwr0.out g)
  clear Cwr0
  have Cwr0 := E
  clear E
  have E := Lib.hid (Blk.grow Cgr0.out g)
  clear Cgr0
  have Cgr0 := E
  clear E
  have E := Lib.hid (Blk.grow Chr0.out g)
  clear Chr0
  have Chr0 := E
  clear E
  have E := Lib.hid (AggO.grow Owr0.out g)
  clear Owr0
  have Owr0 := E
  clear E
  have E := Lib.hid (AggO.grow Ogr0.out g)
  clear Ogr0
  have Ogr0 := E
  clear E
  have E := Lib.hid (AggO.grow Ohr0.out g)
  clear Ohr0
  have Ohr0 := E
  clear E
  have z17 := World.grownBy.size g
  try simp at z17
  have E := Lib.hid (gbT G.out g)
  clear G
  have G := E
  clear E
  clear g
  have k_Cwr0_0 := Cwr0.out.cell 0
  have k_Cwr0_1 := Cwr0.out.cell 1
  have k_Cwr0_2 := Cwr0.out.cell 2
  have k_Cgr0_0 := Cgr0.out.cell 0
  have k_Cgr0_1 := Cgr0.out.cell 1
  have k_Cgr0_2 := Cgr0.out.cell 2
  have k_Chr0_0 := Chr0.out.cell 0
  have k_Chr0_1 := Chr0.out.cell 1
  have k_Chr0_2 := Chr0.out.cell 2
  simp at k_Cwr0_0 k_Cwr0_1 k_Cwr0_2 k_Cgr0_0 k_Cgr0_1 k_Cgr0_2 k_Chr0_0 k_Chr0_1 k_Chr0_2
  go_wp2_with fail
  clear k_Cwr0_0 k_Cwr0_1 k_Cwr0_2 k_Cgr0_0 k_Cgr0_1 k_Cgr0_2 k_Chr0_0 k_Chr0_1 k_Chr0_2
  refine (heldOram_k r0 _ 1 _ Ogr0.out.rd HL0.out (by omega) (by omega)).mono ?_
  rintro e y ⟨rfl, g⟩
  have E := Lib.hid (Blk.grow Cwr0.out g)
  clear Cwr0
  have Cwr0 := E
  clear E
  have E := Lib.hid (Blk.grow Cgr0.out g)
  clear Cgr0
  have Cgr0 := E
  clear E
  have E := Lib.hid (Blk.grow Chr0.out g)
  clear Chr0
  have Chr0 := E
  clear E
  have E := Lib.hid (AggO.grow Owr0.out g)
  clear Owr0
  have Owr0 := E
  clear E
  have E := Lib.hid (AggO.grow Ogr0.out g)
  clear Ogr0
  have Ogr0 := E
  clear E
  have E := Lib.hid (AggO.grow Ohr0.out g)
  clear Ohr0
  have Ohr0 := E
  clear E
  have z18 := World.grownBy.size g
  try simp at z18
  have E := Lib.hid (gbT G.out g)
  clear G
  have G := E
  clear E
  clear g
  have khr0 : ¬ r0.cnt 1 < 0 := by omega
  have k_Cwr0_0 := Cwr0.out.cell 0
  have k_Cwr0_1 := Cwr0.out.cell 1
  have k_Cwr0_2 := Cwr0.out.cell 2
  have k_Cgr0_0 := Cgr0.out.cell 0
  have k_Cgr0_1 := Cgr0.out.cell 1
  have k_Cgr0_2 := Cgr0.out.cell 2
  have k_Chr0_0 := Chr0.out.cell 0
  have k_Chr0_1 := Chr0.out.cell 1
  have k_Chr0_2 := Chr0.out.cell 2
  simp at k_Cwr0_0 k_Cwr0_1 k_Cwr0_2 k_Cgr0_0 k_Cgr0_1 k_Cgr0_2 k_Chr0_0 k_Chr0_1 k_Chr0_2
  go_wp2_with fail
  clear k_Cwr0_0 k_Cwr0_1 k_Cwr0_2 k_Cgr0_0 k_Cgr0_1 k_Cgr0_2 k_Chr0_0 k_Chr0_1 k_Chr0_2
  clear khr0
  go_ret
  exact ⟨rfl, G.out⟩
theorem specOramNew_k (es : List Int) (v : Value) (w : World) (k : (cints es).rd w v) (hn : es.length ≤ 1048576) :
    Calls Try.prog 27 #[v] w fun e w' => ∃ V F, e = .returned (.tuple #[V, .bool (leavesB es)]) ∧ AggO w' (coram (newM es)) F V ∧ (∀ g ∈ F, w.heap.size ≤ g) ∧ w.grownBy w' none := by
  obtain ⟨A, c, rfl, hc, hm, hi⟩ := cints_rd k
  exact specOramNew_c A es.length c es w hi hn
theorem implOramNew_k (es : List Int) (v : Value) (w : World) (k : (cints es).rd w v) (hn : es.length ≤ 1048576) :
    Calls Try.prog 29 #[v] w fun e w' => ∃ V F, e = .returned (.tuple #[V, .bool (leavesB es)]) ∧ AggO w' (coram (newM es)) F V ∧ (∀ g ∈ F, w.heap.size ≤ g) ∧ w.grownBy w' none := by
  obtain ⟨A, c, rfl, hc, hm, hi⟩ := cints_rd k
  exact implOramNew_c A es.length c es w hi hn
theorem FnExactOramNew.walk (w : World) (A : Option Addr) (n c : Nat) (es : List Int) (hes : IntsK .i64 w A n es) (hm : n ≤ c) (hc : c ≤ maxLen) :
    Calls Try.prog 5 #[.slice A n c] w fun e w' => e = .returned (.bool true) ∧ w.grownBy w' none := by
  have hl := Ints.len hes.ints
  by_cases hb : n ≤ 1048576
  · exact FnExactOramNew.core es (newM es) (leavesB es) w _ (cints_mk hes.ints hm hc) (by omega) (by have := newM_sz es; omega) (fun w v h => specOramNew_k es v w h (by omega)) (fun w v h => implOramNew_k es v w h (by omega))
  · have hb' : (1048576 : Int) < (n : Int) := by omega
    clear hes hl
    go_enter Try.func5, Try.ntmps5
    go_wp2_with fail
    go_ret
    exact ⟨rfl, gbR _ _⟩
end Go.Proofs.Ythncoohkdmjcaaa
