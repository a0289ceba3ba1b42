/-
  MacCheck: reference and program; the sum of keys.
-/
import Derived.Test.YthaadgdeadbhkaaMgFnExactEngineOutputs24
namespace Go.Proofs.Ythaadgdeadbhkaa
open Go.RowKit
set_option linter.unusedVariables false
set_option linter.unusedSimpArgs false
def macCheck (k : KM) (o : Int) (a : AuM) : Bool := keysB k && elemB k.p o && ((a.mc.length : Int) == (k.al.length : Int)) && elemsB k.p a.mc && (fsum k.p a.mc == (o * fsum k.p k.al) % k.p)
theorem keys_is {k : KM} (h : keysB k = true) : fieldB k.p = true ∧ elemsB k.p k.al = true ∧ 1 ≤ k.al.length ∧ k.al.length ≤ 5 := by
  unfold keysB at h
  rw [Bool.and_eq_true] at h
  have := inQ_is h.2
  exact ⟨(elemsB_is h.1).1, h.1, by omega, by omega⟩
theorem specl23Key_y (k : KM) (kv : Value) (w : World) (h : AggR w (ckeys k) kv) (hk : keysB k = true) :
    Calls Try.prog 74 #[kv] w fun e w' => e = .returned (.int .i64 (fsum k.p k.al)) ∧ w.grownBy w' none := by
  obtain ⟨A, c, rfl, hc, hm, hI⟩ := ckeys_sl h
  obtain ⟨_, he, h1, h5⟩ := keys_is hk
  have HI := Lib.hid (hI.grow (gbA (gbR w none) (.cells #[.int .i64 k.p, .slice A k.al.length c] 26)))
  have HE := Lib.hid he
  clear h hI he hk
  go_enter Try.func74, Try.ntmps74
  go_wp2_with fail
  refine (specFSum_y k.p A k.al.length c k.al _ HE.out HI.out (by omega)).mono ?_
  rintro e w1 ⟨rfl, rfl⟩
  go_wp2_with fail
  go_ret
  exact ⟨rfl, gbA (gbR _ _) _⟩
set_option maxHeartbeats 2000000 in
set_option maxRecDepth 100000 in
theorem specMacCheck_c (k : KM) (o : Int) (a : AuM) (kv av : Value) (w : World) (h : AggR w (ckeys k) kv) (ha : AggR w (cauth a) av) (wk : kwf k) (wa : awf a) :
    Calls Try.prog 98 #[kv, .int .i64 o, av] w fun e w' => e = .returned (.bool (macCheck k o a)) ∧ w.grownBy w' none := by
  obtain ⟨A, c, rfl, hc, hm, hI⟩ := ckeys_sl h
  obtain ⟨B, d, C, fc, rfl, _, _, _, _, hS, hM⟩ := cauth_sl ha
  obtain ⟨wa1, wa2⟩ := wa
  have hp := wk.1
  have hl := wk.2
  obtain ⟨wp1, wp2⟩ := hp
  have G0 := Lib.hid (gbA (gbA (gbR w none) (.cells #[.int .i64 k.p, .slice A k.al.length c] 26)) (.cells #[.slice B a.sh.length d, .slice C a.mc.length fc] 44))
  have HK := Lib.hid (AggR.grow h G0.out)
  have IK := Lib.hid (hI.grow G0.out)
  have IM := Lib.hid (hM.grow G0.out)
  have B0 := Lib.hid ((Blk.new w 26 #[.int .i64 k.p, .slice A k.al.length c]).grow (gbA (gbR _ _) (.cells #[.slice B a.sh.length d, .slice C a.mc.length fc] 44)))
  have B1 := Lib.hid (Blk.new' (w.alloc (.cells #[.int .i64 k.p, .slice A k.al.length c] 26)) 44 #[.slice B a.sh.length d, .slice C a.mc.length fc] (w.heap.size + 1) (by simp))
  have WK := Lib.hid wk
  have HF : Hid (macCheck k o a = (keysB k && elemB k.p o && ((a.mc.length : Int) == (k.al.length : Int)) && elemsB k.p a.mc && (fsum k.p a.mc == (o * fsum k.p k.al) % k.p))) := rfl
  clear h ha hI hS hM wk
  go_enter Try.func98, Try.ntmps98
  go_wp2_with fail
  refine (specKeysOk_c k _ _ HK.out WK.out).mono ?_
  rintro e w1 ⟨rfl, g1⟩
  have K1 := Lib.hid (AggR.grow HK.out g1)
  have I1 := Lib.hid (IK.out.grow g1)
  have M1 := Lib.hid (IM.out.grow g1)
  have c0 := (B0.out.grow g1).cell 0
  have c1 := (B0.out.grow g1).cell 1
  have d1 := (B1.out.grow g1).cell 1
  simp at c0 c1 d1
  have G1 := Lib.hid (gbT G0.out g1)
  clear g1 HK IK IM B0 B1 WK
  cases b0 : keysB k
  · rw [b0] at HF
    go_wp2_with fail
    go_ret
    exact ⟨retB (by rw [HF.out]; rfl), G1.out⟩
  have b0h := Lib.hid b0
  go_wp2_with fail
  refine (specIsElement_c k.p o _ (by omega)).mono ?_
  rintro e w2 ⟨rfl, rfl⟩
  cases b1 : elemB k.p o
  · rw [b0, b1] at HF
    go_wp2_with fail
    go_ret
    exact ⟨retB (by rw [HF.out]; rfl), G1.out⟩
  have b1h := Lib.hid b1
  cases b2 : ((a.mc.length : Int) == (k.al.length : Int))
  · rw [b0, b1, b2] at HF
    have n2 : ((a.mc.length : Int) != (k.al.length : Int)) = true := by rw [bne, b2]; rfl
    clear b2 b0 b1
    go_wp2_with fail
    go_ret
    exact ⟨retB (by rw [HF.out]; rfl), G1.out⟩
  have n2 : ((a.mc.length : Int) != (k.al.length : Int)) = false := by rw [bne, b2]; rfl
  rw [b0, b1, b2] at HF
  clear b2 b0 b1
  go_wp2_with fail
  refine (specl03All_c k.p C a.mc.length fc a.mc _ (by omega) M1.out (by omega)).mono ?_
  rintro e w2 ⟨rfl, rfl⟩
  cases b3 : elemsB k.p a.mc
  · rw [b3] at HF
    go_wp2_with fail
    go_ret
    exact ⟨retB (by rw [HF.out]; rfl), G1.out⟩
  rw [b3] at HF
  obtain ⟨kf, ke, kl1, kl5⟩ := keys_is b0h.out
  have KE := Lib.hid ke
  have ME := Lib.hid b3
  have FE := Lib.hid (fsum_elem kf k.al)
  obtain ⟨S1, hS1⟩ : ∃ s, fsum k.p a.mc = s := ⟨_, rfl⟩
  obtain ⟨S2, hS2⟩ : ∃ s, fsum k.p k.al = s := ⟨_, rfl⟩
  obtain ⟨S3, hS3⟩ : ∃ s, (o * S2) % k.p = s := ⟨_, rfl⟩
  have HS1 := Lib.hid hS1
  have HS2 := Lib.hid hS2
  have HS3 := Lib.hid hS3
  rw [hS1, hS2, hS3] at HF
  rw [hS2] at FE
  have C0 := Lib.hid c0
  have C1 := Lib.hid c1
  have D1 := Lib.hid d1
  clear ke kf b3 hS1 hS2 hS3 n2
  go_wp2_with fail
  clear c0 c1 d1
  refine region_grow [isV (.pointer (some ⟨w.heap.size, 0, none⟩)), isV (.int .i64 k.p), isV (.pointer (some ⟨w.heap.size + 1, 1, none⟩)), isV (.slice C a.mc.length fc), isV (.int .i64 S1), isV (.pointer (some ⟨w.heap.size, 0, none⟩)), isV (.int .i64 k.p), isV (.int .i64 o), isV (.agg #[.int .i64 k.p, .slice A k.al.length c]), isV (.int .i64 S2), isV (.int .i64 S3), isV (.bool (S1 == S3)), isV (.bool (S1 == S3))] (by kernel_rfl) (by kernel_rfl) (by kernel_rfl) (by simp [stables, isV_st]) ?_ ?_
  · simp only [hops, and_true]
    refine ⟨?_, ?_, ?_, ?_, ?_, ?_, ?_, ?_, ?_, ?_, ?_, ?_, ?_⟩
    all_goals
      intro f w1 hG hd
      have k0 := gbk (gbT (gbD (gbR _ _)) hG) (C0.out)
      have k1 := gbk (gbT (gbD (gbR _ _)) hG) (C1.out)
      have k2 := gbk (gbT (gbD (gbR _ _)) hG) (D1.out)
      simp [deps, tAt, isV] at hd
      first | simp [puts, dsts, Act.put, hd] | simp [puts, dsts, Act.put]
      clear hd
      go_wp2_with (first | (go_at_call 62; refine (specFMul_y k.p o S2 _ b1h.out FE.out).mono ?_; rintro e w6 ⟨rfl, hw⟩; rw [HS3.out]) | (go_at_call 73; refine (specFSum_y k.p C a.mc.length fc a.mc _ ME.out (M1.out.grow (gbT (gbD (gbR _ none)) hG)) (by omega)).mono ?_; rintro e w6 ⟨rfl, rfl⟩; rw [HS1.out]) | (go_at_call 74; refine (specl23Key_y k _ _ (AggR.grow K1.out (gbT (gbD (gbR _ none)) hG)) b0h.out).mono ?_; rintro e w6 ⟨rfl, hw⟩; rw [HS2.out]))
    all_goals exact ⟨_, rfl, by first | with_reducible exact gbR _ _ | exact hw, by first | (simp [tAt, isV]; done) | (simp [tAt, isV]; assumption)⟩
  intro f w5 hG hd
  simp [knows, tAt, isV] at hd
  obtain ⟨h0_, h1_, h2_, h3_, h4_, h5_, h6_, h7_, h8_, h9_, h10_, h11_, h12_⟩ := hd
  simp only [puts, dsts, Act.put, h0_, h1_, h2_, h3_, h4_, h5_, h6_, h7_, h8_, h9_, h10_, h11_, h12_, List.filterMap_cons, List.filterMap_nil, List.setIfInBounds_toArray, List.set_cons_zero, List.set_cons_succ]
  clear h0_ h1_ h2_ h3_ h4_ h5_ h6_ h7_ h8_ h9_ h10_ h11_ h12_
  have g5 := gbT (gbD (gbR _ none)) hG
  clear hG
  have GZ := Lib.hid (gbT G1.out g5)
  go_wp2_with fail
  go_ret
  exact ⟨retB (by rw [HF.out]; rfl), GZ.out⟩
set_option maxHeartbeats 2000000 in
set_option maxRecDepth 100000 in
theorem implMacCheck_c (k : KM) (o : Int) (a : AuM) (kv av : Value) (w : World) (h : AggR w (ckeys k) kv) (ha : AggR w (cauth a) av) (wk : kwf k) (wa : awf a) :
    Calls Try.prog 69 #[kv, .int .i64 o, av] w fun e w' => e = .returned (.bool (macCheck k o a)) ∧ w.grownBy w' none := by
  obtain ⟨A, c, rfl, hc, hm, hI⟩ := ckeys_sl h
  obtain ⟨B, d, C, fc, rfl, _, _, _, _, hS, hM⟩ := cauth_sl ha
  obtain ⟨wa1, wa2⟩ := wa
  have hp := wk.1
  have hl := wk.2
  obtain ⟨wp1, wp2⟩ := hp
  have G0 := Lib.hid (gbA (gbA (gbR w none) (.cells #[.int .i64 k.p, .slice A k.al.length c] 26)) (.cells #[.slice B a.sh.length d, .slice C a.mc.length fc] 44))
  have HK := Lib.hid (AggR.grow h G0.out)
  have IK := Lib.hid (hI.grow G0.out)
  have IM := Lib.hid (hM.grow G0.out)
  have B0 := Lib.hid ((Blk.new w 26 #[.int .i64 k.p, .slice A k.al.length c]).grow (gbA (gbR _ _) (.cells #[.slice B a.sh.length d, .slice C a.mc.length fc] 44)))
  have B1 := Lib.hid (Blk.new' (w.alloc (.cells #[.int .i64 k.p, .slice A k.al.length c] 26)) 44 #[.slice B a.sh.length d, .slice C a.mc.length fc] (w.heap.size + 1) (by simp))
  have WK := Lib.hid wk
  have HF : Hid (macCheck k o a = (keysB k && elemB k.p o && ((a.mc.length : Int) == (k.al.length : Int)) && elemsB k.p a.mc && (fsum k.p a.mc == (o * fsum k.p k.al) % k.p))) := rfl
  clear h ha hI hS hM wk
  go_enter Try.func69, Try.ntmps69
  go_wp2_with fail
  refine (implKeysOk_c k _ _ HK.out WK.out).mono ?_
  rintro e w1 ⟨rfl, g1⟩
  have K1 := Lib.hid (AggR.grow HK.out g1)
  have I1 := Lib.hid (IK.out.grow g1)
  have M1 := Lib.hid (IM.out.grow g1)
  have c0 := (B0.out.grow g1).cell 0
  have c1 := (B0.out.grow g1).cell 1
  have d1 := (B1.out.grow g1).cell 1
  simp at c0 c1 d1
  have G1 := Lib.hid (gbT G0.out g1)
  clear g1 HK IK IM B0 B1 WK
  cases b0 : keysB k
  · rw [b0] at HF
    go_wp2_with fail
    go_ret
    exact ⟨retB (by rw [HF.out]; rfl), G1.out⟩
  have b0h := Lib.hid b0
  go_wp2_with fail
  refine (implIsElement_q k.p o _ (by omega) (by omega)).mono ?_
  rintro e w2 ⟨rfl, rfl⟩
  cases b1 : elemB k.p o
  · rw [b0, b1] at HF
    go_wp2_with fail
    go_ret
    exact ⟨retB (by rw [HF.out]; rfl), G1.out⟩
  have b1h := Lib.hid b1
  cases b2 : ((a.mc.length : Int) == (k.al.length : Int))
  · rw [b0, b1, b2] at HF
    have n2 : ((a.mc.length : Int) != (k.al.length : Int)) = true := by rw [bne, b2]; rfl
    clear b2 b0 b1
    go_wp2_with fail
    go_ret
    exact ⟨retB (by rw [HF.out]; rfl), G1.out⟩
  have n2 : ((a.mc.length : Int) != (k.al.length : Int)) = false := by rw [bne, b2]; rfl
  rw [b0, b1, b2] at HF
  clear b2 b0 b1
  go_wp2_with fail
  refine (implareElements_c k.p C a.mc.length fc a.mc _ (by omega) (by omega) M1.out (by omega)).mono ?_
  rintro e w2 ⟨rfl, rfl⟩
  cases b3 : elemsB k.p a.mc
  · rw [b3] at HF
    go_wp2_with fail
    go_ret
    exact ⟨retB (by rw [HF.out]; rfl), G1.out⟩
  rw [b3] at HF
  obtain ⟨kf, ke, kl1, kl5⟩ := keys_is b0h.out
  have KE := Lib.hid ke
  have ME := Lib.hid b3
  have FE := Lib.hid (fsum_elem kf k.al)
  obtain ⟨S1, hS1⟩ : ∃ s, fsum k.p a.mc = s := ⟨_, rfl⟩
  obtain ⟨S2, hS2⟩ : ∃ s, fsum k.p k.al = s := ⟨_, rfl⟩
  obtain ⟨S3, hS3⟩ : ∃ s, (o * S2) % k.p = s := ⟨_, rfl⟩
  have HS1 := Lib.hid hS1
  have HS2 := Lib.hid hS2
  have HS3 := Lib.hid hS3
  rw [hS1, hS2, hS3] at HF
  rw [hS2] at FE
  have C0 := Lib.hid c0
  have C1 := Lib.hid c1
  have D1 := Lib.hid d1
  clear ke kf b3 hS1 hS2 hS3 n2
  go_wp2_with fail
  clear c0 c1 d1
  refine region_grow [isV (.pointer (some ⟨w.heap.size, 0, none⟩)), isV (.int .i64 k.p), isV (.pointer (some ⟨w.heap.size + 1, 1, none⟩)), isV (.slice C a.mc.length fc), isV (.int .i64 S1), isV (.pointer (some ⟨w.heap.size, 0, none⟩)), isV (.int .i64 k.p), isV (.int .i64 o), isV (.pointer (some ⟨w.heap.size, 0, none⟩)), isV (.int .i64 k.p), isV (.pointer (some ⟨w.heap.size, 1, none⟩)), isV (.slice A k.al.length c), isV (.int .i64 S2), isV (.int .i64 S3), isV (.bool (S1 == S3)), isV (.bool (S1 == S3))] (by kernel_rfl) (by kernel_rfl) (by kernel_rfl) (by simp [stables, isV_st]) ?_ ?_
  · simp only [hops, and_true]
    refine ⟨?_, ?_, ?_, ?_, ?_, ?_, ?_, ?_, ?_, ?_, ?_, ?_, ?_, ?_, ?_, ?_⟩
    all_goals
      intro f w1 hG hd
      have k0 := gbk (gbT (gbD (gbR _ _)) hG) (C0.out)
      have k1 := gbk (gbT (gbD (gbR _ _)) hG) (C1.out)
      have k2 := gbk (gbT (gbD (gbR _ _)) hG) (D1.out)
      simp [deps, tAt, isV] at hd
      first | simp [puts, dsts, Act.put, hd] | simp [puts, dsts, Act.put]
      clear hd
      go_wp2_with (first | (go_at_call 117; refine (implFMul_y k.p o S2 _ b1h.out FE.out).mono ?_; rintro e w6 ⟨rfl, hw⟩; rw [HS3.out]) | (go_at_call 118; first | (with_reducible refine (implFSum_y k.p C a.mc.length fc a.mc _ ME.out (M1.out.grow (gbT (gbD (gbR _ none)) hG)) (by omega)).mono ?_; rintro e w6 ⟨rfl, rfl⟩; rw [HS1.out]) | (refine (implFSum_y k.p A k.al.length c k.al _ KE.out (I1.out.grow (gbT (gbD (gbR _ none)) hG)) (by omega)).mono ?_; rintro e w6 ⟨rfl, rfl⟩; rw [HS2.out])))
    all_goals exact ⟨_, rfl, by first | with_reducible exact gbR _ _ | exact hw, by first | (simp [tAt, isV]; done) | (simp [tAt, isV]; assumption)⟩
  intro f w5 hG hd
  simp [knows, tAt, isV] at hd
  obtain ⟨h0_, h1_, h2_, h3_, h4_, h5_, h6_, h7_, h8_, h9_, h10_, h11_, h12_, h13_, h14_, h15_⟩ := hd
  simp only [puts, dsts, Act.put, h0_, h1_, h2_, h3_, h4_, h5_, h6_, h7_, h8_, h9_, h10_, h11_, h12_, h13_, h14_, h15_, List.filterMap_cons, List.filterMap_nil, List.setIfInBounds_toArray, List.set_cons_zero, List.set_cons_succ]
  clear h0_ h1_ h2_ h3_ h4_ h5_ h6_ h7_ h8_ h9_ h10_ h11_ h12_ h13_ h14_ h15_
  have g5 := gbT (gbD (gbR _ none)) hG
  clear hG
  have GZ := Lib.hid (gbT G1.out g5)
  go_wp2_with fail
  go_ret
  exact ⟨retB (by rw [HF.out]; rfl), GZ.out⟩
end Go.Proofs.Ythaadgdeadbhkaa
