/-
  GarbledOk of a garbling that was made.
-/
import Derived.Test.YthdfkiaoahpjpaaMgFnCaught31
namespace Go.Proofs.Ythdfkiaoahpjpaa
open Go.RowKit
set_option linter.unusedVariables false
set_option linter.unusedSimpArgs false
theorem gar_open {w : World} {d : Int} {zs ts : List Int} {v : Value} (h : AggR w (cgarb d zs ts) v) : ∃ A c B e, v = .agg #[.int .i64 d, .slice A zs.length c, .slice B ts.length e] ∧ Ints w A zs.length zs ∧ Ints w B ts.length ts := by
  obtain ⟨vs, rfl, h⟩ := h
  obtain ⟨u0, vs0, rfl, h0, h⟩ := RdAll.head h
  obtain ⟨u1, vs1, rfl, h1, h⟩ := RdAll.head h
  obtain ⟨u2, vs2, rfl, h2, h⟩ := RdAll.head h
  obtain rfl := RdAll.none h
  obtain rfl := ci_rd h0
  obtain ⟨A, c, rfl, _, _, i1⟩ := cints_rd h1
  obtain ⟨B, e, rfl, _, _, i2⟩ := cints_rd h2
  exact ⟨A, c, B, e, rfl, i1, i2⟩
set_option maxHeartbeats 1600000 in
set_option maxRecDepth 100000 in
theorem implGarbledOk_yes (m : CM) (s : Nat) (v u : Value) (w0 : World) (h : AggR w0 (ccircuit m) v) (ok : COk m) (hg : AggR w0 (cgarb (dltN s) (garZ s m.gt m.gt.length) (garT s m.gt m.gt.length)) u) :
    Calls Try.prog 107 #[v, u] w0 fun e w' => e = .returned (.bool true) ∧ w0.grownBy w' none := by
  have HV := Lib.hid h
  obtain ⟨u0, u1, rfl, h1, h2⟩ := ccircuit_open h
  obtain ⟨A, cA, rfl, hc, hm, hF⟩ := plst_rd (s := 3) (fun _ => rfl) (by omega) h1
  obtain ⟨B, cB, rfl, _, _, hB⟩ := cints_rd h2
  obtain ⟨Z, cz, T, ct, rfl, iz, it⟩ := gar_open hg
  have hn6 : m.gt.length ≤ 6000 := ok.few
  have OK := Lib.hid ok
  have LL := Lib.hid (garZ_lab s m.gt m.gt.length)
  have LT := Lib.hid (garT_lab s m.gt m.gt.length)
  have hgl : gts m.gt 4 m.gt.length ≤ m.gt.length := gts_le m.gt 4 m.gt.length
  have lt := garT_len s m.gt m.gt.length (Nat.le_refl _)
  have hz := garZ_len s m.gt m.gt.length
  obtain ⟨zs, hzs⟩ : ∃ x, garZ s m.gt m.gt.length = x := ⟨_, rfl⟩
  obtain ⟨ts, hts⟩ : ∃ x, garT s m.gt m.gt.length = x := ⟨_, rfl⟩
  rw [hzs] at iz hz LL ⊢
  rw [hts] at it lt LT ⊢
  rw [hz] at iz ⊢
  have hd6 := dltN_lt s
  have hodd := dlt_odd s
  have HQ := Lib.hid (lab_q (labI.of _ hd6))
  obtain ⟨dd, hdd⟩ : ∃ dd, dltN s = dd := ⟨_, rfl⟩
  rw [hdd] at hd6 hodd HQ ⊢
  have HE : bits .and .i64 (dd : Int) 1 = 1 := by rw [show (1 : Int) = ((1 : Nat) : Int) from rfl, and_nat dd 1 (by omega) (by omega), hodd]
  obtain ⟨cg, hcg⟩ : ∃ x, gts m.gt 4 m.gt.length = x := ⟨_, rfl⟩
  have CG := fun (v : Value) (w : World) (h : AggR w (ccircuit m) v) => implCountGates_c m 4 v w h
  rw [hcg] at lt hgl CG
  have HCG := Lib.hid CG
  obtain ⟨q, hq⟩ : ∃ q, m.outs.length = q := ⟨_, rfl⟩
  rw [hq] at HV hB ⊢
  obtain ⟨n, hn⟩ : ∃ n, m.gt.length = n := ⟨_, rfl⟩
  rw [hn] at HV hc hF hn6 iz hgl ⊢
  rw [lt] at it ⊢
  have IZ := Lib.hid iz
  have IT := Lib.hid it
  obtain ⟨r, hr⟩ : ∃ r, 2 * cg = r := ⟨_, rfl⟩
  have hri : (2 : Int) * (cg : Int) = (r : Int) := by omega
  rw [hr] at IT ⊢
  obtain ⟨w1, hw1⟩ : ∃ x : World, ((w0.alloc (.cells #[.slice A n cA, .slice B q cB] 28)).alloc (.cells #[.int .i64 dd, .slice Z n cz, .slice T r ct] 100)) = x := ⟨_, rfl⟩
  have G1 : Hid (w0.grownBy w1 none) := by rw [← hw1]; exact Lib.hid (gbA (gbA (gbR _ _) _) _)
  have D1 : Hid (Blk w1 w0.heap.size 28 #[.slice A n cA, .slice B q cB]) := by rw [← hw1]; exact Lib.hid ((Blk.new w0 _ _).grow (gbA (gbR _ _) _))
  have T1 : Hid (Blk w1 (w0.heap.size + 1) 100 #[.int .i64 dd, .slice Z n cz, .slice T r ct]) := by rw [← hw1]; exact Lib.hid (Blk.new' _ _ _ _ (by simp))
  have C0 : Hid (w1.cell? ⟨w0.heap.size, 0, none⟩ = some (.slice A n cA)) := Lib.hid (by have := D1.out.cell 0; simpa using this)
  have C1 : Hid (w1.cell? ⟨w0.heap.size, 1, none⟩ = some (.slice B q cB)) := Lib.hid (by have := D1.out.cell 1; simpa using this)
  have T0 : Hid (w1.cell? ⟨w0.heap.size + 1, 0, none⟩ = some (.int .i64 dd)) := Lib.hid (by have := T1.out.cell 0; simpa using this)
  have T1' : Hid (w1.cell? ⟨w0.heap.size + 1, 1, none⟩ = some (.slice Z n cz)) := Lib.hid (by have := T1.out.cell 1; simpa using this)
  have T2 : Hid (w1.cell? ⟨w0.heap.size + 1, 2, none⟩ = some (.slice T r ct)) := Lib.hid (by have := T1.out.cell 2; simpa using this)
  have hr6 : r ≤ 12000 := by omega
  have HVW := Lib.hid (HV.out.grow G1.out)
  have IZW := Lib.hid (IZ.out.grow G1.out)
  have ITW := Lib.hid (IT.out.grow G1.out)
  have HCB := Lib.hid (circB_yes OK.out)
  have HRI := Lib.hid hri
  clear h h1 h2 hF hB ok hn hm hdd hg iz it hz lt hzs hts hodd hcg hr CG hq D1 T1 HV IZ IT hri
  go_enter Try.func107, Try.ntmps107
  go_wp2_with fail
  try rw [hw1]
  clear hw1
  have hri := HRI.out
  refine region_grow [isV (.agg #[.slice A n cA, .slice B q cB]), isV (.bool true), isV (.bool true), isV (.pointer (some ⟨w0.heap.size + 1, 0, none⟩)), isV (.int .i64 dd), isV (.bool true), isV (.bool true), isV (.bool true), isV (.pointer (some ⟨w0.heap.size + 1, 1, none⟩)), isV (.slice Z n cz), isV (.bool true), isV (.bool true), isV (.bool true), isV (.pointer (some ⟨w0.heap.size + 1, 2, none⟩)), isV (.slice T r ct), isV (.bool true), isV (.bool true), isV (.bool true), isV (.pointer (some ⟨w0.heap.size + 1, 0, none⟩)), isV (.int .i64 dd), isV (.int .i64 1), isV (.bool true), isV (.bool true), isV (.bool true), isV (.pointer (some ⟨w0.heap.size + 1, 1, none⟩)), isV (.slice Z n cz), isV (.int .i64 n), isV (.pointer (some ⟨w0.heap.size, 0, none⟩)), isV (.slice A n cA), isV (.int .i64 n), isV (.bool true), isV (.bool true), isV (.bool true), isV (.pointer (some ⟨w0.heap.size + 1, 2, none⟩)), isV (.slice T r ct), isV (.int .i64 r), isV (.agg #[.slice A n cA, .slice B q cB]), isV (.int .i64 cg), isV (.int .i64 r), isV (.bool true), isV (.bool true), isV (.bool true)] (by kernel_rfl) (by kernel_rfl) (by kernel_rfl) (by simp [stables, isV_st]) ?_ ?_
  · simp only [hops, and_true]
    refine ⟨?_, ?_, ?_, ?_, ?_, ?_, ?_, ?_, ?_, ?_, ?_, ?_, ?_, ?_, ?_, ?_, ?_, ?_, ?_, ?_, ?_, ?_, ?_, ?_, ?_, ?_, ?_, ?_, ?_, ?_, ?_, ?_, ?_, ?_, ?_, ?_, ?_, ?_, ?_, ?_, ?_, ?_⟩
    all_goals
      intro f w1 hG hd
      have k0 := gbk (gbT (gbD (gbR _ _)) hG) (C0.out)
      have k1 := gbk (gbT (gbD (gbR _ _)) hG) (C1.out)
      have k2 := gbk (gbT (gbD (gbR _ _)) hG) (T0.out)
      have k3 := gbk (gbT (gbD (gbR _ _)) hG) (T1'.out)
      have k4 := gbk (gbT (gbD (gbR _ _)) hG) (T2.out)
      simp [deps, tAt, isV] at hd
      first | simp [puts, dsts, Act.put, hd] | simp [puts, dsts, Act.put]
      clear hd
      go_wp2_with (first | (go_at_call 55; refine (implCircuitOk_c m _ _ (HVW.out.grow (gbT (gbD (gbR _ none)) hG))).mono ?_; rintro e w6 ⟨rfl, hw⟩; rw [HCB.out]) | (go_at_call 124; refine (implIsLabel_c dd _).mono ?_; rintro e w6 ⟨rfl, rfl⟩; rw [HQ.out]) | (go_at_call 20; refine (HCG.out _ _ (HVW.out.grow (gbT (gbD (gbR _ none)) hG))).mono ?_; rintro e w6 ⟨rfl, hw⟩) | (go_at_call 126; first | (with_reducible refine (implareLabels_yes Z n cz zs _ (IZW.out.grow (gbT (gbD (gbR _ none)) hG)) (by omega) LL.out).mono ?_; rintro e w6 ⟨rfl, rfl⟩) | (with_reducible refine (implareLabels_yes T r ct ts _ (ITW.out.grow (gbT (gbD (gbR _ none)) hG)) (by omega) LT.out).mono ?_; rintro e w6 ⟨rfl, rfl⟩)))
    all_goals exact ⟨_, rfl, by first | with_reducible exact gbR _ _ | exact hw, by first | (simp [tAt, isV]; done) | (simp [tAt, isV]; assumption)⟩
  intro f w5 hG hd
  simp [knows, tAt, isV] at hd
  obtain ⟨h0_, h1_, h2_, h3_, h4_, h5_, h6_, h7_, h8_, h9_, h10_, h11_, h12_, h13_, h14_, h15_, h16_, h17_, h18_, h19_, h20_, h21_, h22_, h23_, h24_, h25_, h26_, h27_, h28_, h29_, h30_, h31_, h32_, h33_, h34_, h35_, h36_, h37_, h38_, h39_, h40_, h41_⟩ := hd
  simp only [puts, dsts, Act.put, h0_, h1_, h2_, h3_, h4_, h5_, h6_, h7_, h8_, h9_, h10_, h11_, h12_, h13_, h14_, h15_, h16_, h17_, h18_, h19_, h20_, h21_, h22_, h23_, h24_, h25_, h26_, h27_, h28_, h29_, h30_, h31_, h32_, h33_, h34_, h35_, h36_, h37_, h38_, h39_, h40_, h41_, List.filterMap_cons, List.filterMap_nil, List.setIfInBounds_toArray, List.set_cons_zero, List.set_cons_succ]
  clear h0_ h1_ h2_ h3_ h4_ h5_ h6_ h7_ h8_ h9_ h10_ h11_ h12_ h13_ h14_ h15_ h16_ h17_ h18_ h19_ h20_ h21_ h22_ h23_ h24_ h25_ h26_ h27_ h28_ h29_ h30_ h31_ h32_ h33_ h34_ h35_ h36_ h37_ h38_ h39_ h40_ h41_
  have g5 := gbT (gbD (gbR _ none)) hG
  clear hG
  go_wp2_with fail
  go_ret
  exact ⟨rfl, gbT G1.out g5⟩
end Go.Proofs.Ythdfkiaoahpjpaa
