import Derived.Test.YtllokfcappfkiaaCost
namespace Go.Proofs.Ytllokfcappfkiaa
open Go.RowKit
set_option linter.unusedVariables false
theorem kSb {w : World} {b o g j : Nat} {v : Value} (h : w.cell? ⟨b, o, none⟩ = some v) (hq : b ≠ g) (u : Value) : (w.setCell ⟨g, j, none⟩ u).cell? ⟨b, o, none⟩ = some v := kS h hq u

set_option maxHeartbeats 800000 in
theorem FnExactAddCosts.walk (w : World) (a1 : Int) (x1 : (Lit.int .i64 a1).wf = true) (a2 : Int) (x2 : (Lit.int .i64 a2).wf = true) (a3 : Int) (x3 : (Lit.int .i64 a3).wf = true) (a4 : Int) (x4 : (Lit.int .i64 a4).wf = true) (b1 : Int) (y1 : (Lit.int .i64 b1).wf = true) (b2 : Int) (y2 : (Lit.int .i64 b2).wf = true) (b3 : Int) (y3 : (Lit.int .i64 b3).wf = true) (b4 : Int) (y4 : (Lit.int .i64 b4).wf = true) :
    Calls Try.prog 5 #[.agg #[.int .i64 a1, .int .i64 a2, .int .i64 a3, .int .i64 a4], .agg #[.int .i64 b1, .int .i64 b2, .int .i64 b3, .int .i64 b4]] w fun e w' => e = .returned (.bool true) ∧ w.grownBy w' none := by
  clear x1 x2 x3 x4 y1 y2 y3 y4
  have e0 : ((w.alloc (.cells #[.int .i64 a1, .int .i64 a2, .int .i64 a3, .int .i64 a4] 23)).alloc (.cells #[.int .i64 b1, .int .i64 b2, .int .i64 b3, .int .i64 b4] 23)).cell? ⟨w.heap.size, 0, none⟩ = some (.int .i64 a1) := by simp
  have e1 : ((w.alloc (.cells #[.int .i64 a1, .int .i64 a2, .int .i64 a3, .int .i64 a4] 23)).alloc (.cells #[.int .i64 b1, .int .i64 b2, .int .i64 b3, .int .i64 b4] 23)).cell? ⟨w.heap.size, 1, none⟩ = some (.int .i64 a2) := by simp
  have e2 : ((w.alloc (.cells #[.int .i64 a1, .int .i64 a2, .int .i64 a3, .int .i64 a4] 23)).alloc (.cells #[.int .i64 b1, .int .i64 b2, .int .i64 b3, .int .i64 b4] 23)).cell? ⟨w.heap.size, 2, none⟩ = some (.int .i64 a3) := by simp
  have e3 : ((w.alloc (.cells #[.int .i64 a1, .int .i64 a2, .int .i64 a3, .int .i64 a4] 23)).alloc (.cells #[.int .i64 b1, .int .i64 b2, .int .i64 b3, .int .i64 b4] 23)).cell? ⟨w.heap.size, 3, none⟩ = some (.int .i64 a4) := by simp
  have e4 : ((w.alloc (.cells #[.int .i64 a1, .int .i64 a2, .int .i64 a3, .int .i64 a4] 23)).alloc (.cells #[.int .i64 b1, .int .i64 b2, .int .i64 b3, .int .i64 b4] 23)).cell? ⟨w.heap.size + 1, 0, none⟩ = some (.int .i64 b1) := by simp
  have e5 : ((w.alloc (.cells #[.int .i64 a1, .int .i64 a2, .int .i64 a3, .int .i64 a4] 23)).alloc (.cells #[.int .i64 b1, .int .i64 b2, .int .i64 b3, .int .i64 b4] 23)).cell? ⟨w.heap.size + 1, 1, none⟩ = some (.int .i64 b2) := by simp
  have e6 : ((w.alloc (.cells #[.int .i64 a1, .int .i64 a2, .int .i64 a3, .int .i64 a4] 23)).alloc (.cells #[.int .i64 b1, .int .i64 b2, .int .i64 b3, .int .i64 b4] 23)).cell? ⟨w.heap.size + 1, 2, none⟩ = some (.int .i64 b3) := by simp
  have e7 : ((w.alloc (.cells #[.int .i64 a1, .int .i64 a2, .int .i64 a3, .int .i64 a4] 23)).alloc (.cells #[.int .i64 b1, .int .i64 b2, .int .i64 b3, .int .i64 b4] 23)).cell? ⟨w.heap.size + 1, 3, none⟩ = some (.int .i64 b4) := by simp
  go_enter Try.func5, Try.ntmps5
  go_upto_region 1 with fail
  refine region_grow_last [isV (agg4 a1 a2 a3 a4), isV (agg4 a1 a2 a3 a4), isV (agg4 b1 b2 b3 b4), isV (agg4 b1 b2 b3 b4), isV (.agg #[.int .i64 (wrap64 (a1 + b1)), .int .i64 (wrap64 (a2 + b2)), .int .i64 (wrap64 (a3 + b3)), .int .i64 (wrap64 (a4 + b4))]), isBox (w.heap.size + 2) 25 #[.int .i64 0, .int .i64 0, .int .i64 0, .int .i64 0]] (l := [_, _, _, _, _, _]) (o := _) rfl (by kernel_rfl) (by kernel_rfl) (by kernel_rfl) (by kernel_rfl) (by simp [stables, isV_st, isBox_st]) ?_ ?_
  · simp only [hops, and_true]
    refine ⟨?_, ?_, ?_, ?_, ?_, ?_⟩
    all_goals
      intro f w1 hG hd
      replace e0 := gbk hG (kD e0)
      replace e1 := gbk hG (kD e1)
      replace e2 := gbk hG (kD e2)
      replace e3 := gbk hG (kD e3)
      replace e4 := gbk hG (kD e4)
      replace e5 := gbk hG (kD e5)
      replace e6 := gbk hG (kD e6)
      replace e7 := gbk hG (kD e7)
      simp [deps, tAt, isV] at hd
      simp [puts, dsts, Act.put, hd]
      go_wp2_with (first | (go_at_call 26; refine (toCost_c _ _ _ _ _).mono ?_; rintro e w2 ⟨rfl, hw⟩) | (go_at_call 30; refine (specAddCosts_c _ _ _ _ _ _ _ _ _).mono ?_; rintro e w2 ⟨rfl, hw⟩))
    all_goals exact ⟨_, rfl, by first | exact gbR _ _ | exact hw | exact gbA (gbR _ _) _, by first | (simp [tAt, isV]; done) | exact ⟨_, rfl, by have := hG.size; simp at this; omega, Blk.new _ _ _⟩⟩
  · intro f w1 hG hd
    replace e0 := gbk hG (kD e0)
    replace e1 := gbk hG (kD e1)
    replace e2 := gbk hG (kD e2)
    replace e3 := gbk hG (kD e3)
    replace e4 := gbk hG (kD e4)
    replace e5 := gbk hG (kD e5)
    replace e6 := gbk hG (kD e6)
    replace e7 := gbk hG (kD e7)
    simp [knows, tAt, isV] at hd
    obtain ⟨h1, h2, h3, h4, h5, g1, h6, h7, h8⟩ := hd
    have c0 := h8.cell 0
    have q0 := h8.frozen 0
    have c1 := h8.cell 1
    have q1 := h8.frozen 1
    have c2 := h8.cell 2
    have q2 := h8.frozen 2
    have c3 := h8.cell 3
    have q3 := h8.frozen 3
    simp at c0 c1 c2 c3
    simp only [puts, dsts, Act.put, h1, h2, h3, h4, h5, h6, List.filterMap_cons, List.filterMap_nil, List.setIfInBounds_toArray, List.set_cons_zero, List.set_cons_succ]
    have hgl := h8.lt
    have hk := (((h8.set_ 0 (.int .i64 (wrap64 (a1 + b1)))).set_ 1 (.int .i64 (wrap64 (a2 + b2)))).set_ 2 (.int .i64 (wrap64 (a3 + b3)))).set_ 3 (.int .i64 (wrap64 (a4 + b4)))
    have hk' : Blk _ g1 25 #[.int .i64 (wrap64 (a1 + b1)), .int .i64 (wrap64 (a2 + b2)), .int .i64 (wrap64 (a3 + b3)), .int .i64 (wrap64 (a4 + b4))] := hk
    clear hk h8
    go_wp2_with fail
    obtain ⟨W, hW⟩ : ∃ W, W = ((((w1.setCell ⟨g1, 0, none⟩ (.int .i64 (wrap64 (a1 + b1)))).setCell ⟨g1, 1, none⟩ (.int .i64 (wrap64 (a2 + b2)))).setCell ⟨g1, 2, none⟩ (.int .i64 (wrap64 (a3 + b3)))).setCell ⟨g1, 3, none⟩ (.int .i64 (wrap64 (a4 + b4)))) := ⟨_, rfl⟩
    have GW : w.grownBy W none := by
      rw [hW]
      exact gbS (gbS (gbS (gbS (gbT (gbD (gbA (gbA (gbR _ _) _) _)) hG) (by show _ ≤ g1; omega) _) (by show _ ≤ g1; omega) _) (by show _ ≤ g1; omega) _) (by show _ ≤ g1; omega) _
    have ne0 : W.cell? ⟨w.heap.size, 0, none⟩ = some (.int .i64 a1) := by
      rw [hW]
      exact kSb (kSb (kSb (kSb e0 (by omega) _) (by omega) _) (by omega) _) (by omega) _
    have ne1 : W.cell? ⟨w.heap.size, 1, none⟩ = some (.int .i64 a2) := by
      rw [hW]
      exact kSb (kSb (kSb (kSb e1 (by omega) _) (by omega) _) (by omega) _) (by omega) _
    have ne2 : W.cell? ⟨w.heap.size, 2, none⟩ = some (.int .i64 a3) := by
      rw [hW]
      exact kSb (kSb (kSb (kSb e2 (by omega) _) (by omega) _) (by omega) _) (by omega) _
    have ne3 : W.cell? ⟨w.heap.size, 3, none⟩ = some (.int .i64 a4) := by
      rw [hW]
      exact kSb (kSb (kSb (kSb e3 (by omega) _) (by omega) _) (by omega) _) (by omega) _
    have ne4 : W.cell? ⟨w.heap.size + 1, 0, none⟩ = some (.int .i64 b1) := by
      rw [hW]
      exact kSb (kSb (kSb (kSb e4 (by omega) _) (by omega) _) (by omega) _) (by omega) _
    have ne5 : W.cell? ⟨w.heap.size + 1, 1, none⟩ = some (.int .i64 b2) := by
      rw [hW]
      exact kSb (kSb (kSb (kSb e5 (by omega) _) (by omega) _) (by omega) _) (by omega) _
    have ne6 : W.cell? ⟨w.heap.size + 1, 2, none⟩ = some (.int .i64 b3) := by
      rw [hW]
      exact kSb (kSb (kSb (kSb e6 (by omega) _) (by omega) _) (by omega) _) (by omega) _
    have ne7 : W.cell? ⟨w.heap.size + 1, 3, none⟩ = some (.int .i64 b4) := by
      rw [hW]
      exact kSb (kSb (kSb (kSb e7 (by omega) _) (by omega) _) (by omega) _) (by omega) _
    rw [← hW] at hk' ⊢
    clear hW
    clear hG h6 c0 c1 c2 c3 q0 q1 q2 q3 h1 h2 h3 h4 h5 e0 e1 e2 e3 e4 e5 e6 e7
    have r0 := hk'.cell 0
    have r1 := hk'.cell 1
    have r2 := hk'.cell 2
    have r3 := hk'.cell 3
    simp at r0 r1 r2 r3
    have hgW := hk'.lt
    have hz0 := GW.size
    go_upto_region 2 with fail
    refine region_grow_last [isV (agg4 a1 a2 a3 a4), isV (agg4 a1 a2 a3 a4), isV (agg4 b1 b2 b3 b4), isV (agg4 b1 b2 b3 b4), isV (.agg #[.int .i64 (wrap64 (a1 + b1)), .int .i64 (wrap64 (a2 + b2)), .int .i64 (wrap64 (a3 + b3)), .int .i64 (wrap64 (a4 + b4))]), isBox W.heap.size 25 #[.int .i64 0, .int .i64 0, .int .i64 0, .int .i64 0]] (l := [_, _, _, _, _, _]) (o := _) rfl (by kernel_rfl) (by kernel_rfl) (by kernel_rfl) (by kernel_rfl) (by simp [stables, isV_st, isBox_st]) ?_ ?_
    · simp only [hops, and_true]
      refine ⟨?_, ?_, ?_, ?_, ?_, ?_⟩
      all_goals
        intro f w1 hG hd
        replace ne0 := gbk hG (kD ne0)
        replace ne1 := gbk hG (kD ne1)
        replace ne2 := gbk hG (kD ne2)
        replace ne3 := gbk hG (kD ne3)
        replace ne4 := gbk hG (kD ne4)
        replace ne5 := gbk hG (kD ne5)
        replace ne6 := gbk hG (kD ne6)
        replace ne7 := gbk hG (kD ne7)
        replace r0 := gbk hG (kD r0)
        replace r1 := gbk hG (kD r1)
        replace r2 := gbk hG (kD r2)
        replace r3 := gbk hG (kD r3)
        simp [deps, tAt, isV] at hd
        simp [puts, dsts, Act.put, hd]
        go_wp2_with (first | (go_at_call 26; refine (toCost_c _ _ _ _ _).mono ?_; rintro e w2 ⟨rfl, hw⟩) | (go_at_call 31; refine (implAddCosts_c _ _ _ _ _ _ _ _ _).mono ?_; rintro e w2 ⟨rfl, hw⟩))
      all_goals exact ⟨_, rfl, by first | exact gbR _ _ | exact hw | exact gbA (gbR _ _) _, by first | (simp [tAt, isV]; done) | exact ⟨_, rfl, by have := hG.size; simp at this; omega, Blk.new _ _ _⟩⟩
    · intro f w1 hG hd
      replace ne0 := gbk hG (kD ne0)
      replace ne1 := gbk hG (kD ne1)
      replace ne2 := gbk hG (kD ne2)
      replace ne3 := gbk hG (kD ne3)
      replace ne4 := gbk hG (kD ne4)
      replace ne5 := gbk hG (kD ne5)
      replace ne6 := gbk hG (kD ne6)
      replace ne7 := gbk hG (kD ne7)
      replace r0 := gbk hG (kD r0)
      replace r1 := gbk hG (kD r1)
      replace r2 := gbk hG (kD r2)
      replace r3 := gbk hG (kD r3)
      simp [knows, tAt, isV] at hd
      obtain ⟨h1', h2', h3', h4', h5', g2, h6', h7', h8⟩ := hd
      have c0 := h8.cell 0
      have q0 := h8.frozen 0
      have c1 := h8.cell 1
      have q1 := h8.frozen 1
      have c2 := h8.cell 2
      have q2 := h8.frozen 2
      have c3 := h8.cell 3
      have q3 := h8.frozen 3
      simp at c0 c1 c2 c3
      simp only [puts, dsts, Act.put, h1', h2', h3', h4', h5', h6', List.filterMap_cons, List.filterMap_nil, List.setIfInBounds_toArray, List.set_cons_zero, List.set_cons_succ]
      have hgl2 := h8.lt
      have hk := (((h8.set_ 0 (.int .i64 (wrap64 (a1 + b1)))).set_ 1 (.int .i64 (wrap64 (a2 + b2)))).set_ 2 (.int .i64 (wrap64 (a3 + b3)))).set_ 3 (.int .i64 (wrap64 (a4 + b4)))
      have hk2 : Blk _ g2 25 #[.int .i64 (wrap64 (a1 + b1)), .int .i64 (wrap64 (a2 + b2)), .int .i64 (wrap64 (a3 + b3)), .int .i64 (wrap64 (a4 + b4))] := hk
      clear hk h8
      have hne : g1 ≠ g2 := by omega
      have hne2 : g2 ≠ g1 := by omega
      have G2 : w.grownBy _ none := gbT (gbD GW) hG
      clear hk2 ne0 ne1 ne2 ne3 ne4 ne5 ne6 ne7
      go_wp2_with fail
      refine (eqCost_c _ _ _ _ _).mono ?_
      rintro e w3 ⟨rfl, hw⟩
      go_wp2_with fail
      go_ret
      exact ⟨rfl, gbT (gbS (gbS (gbS (gbS G2 (by show _ ≤ g2; omega) _) (by show _ ≤ g2; omega) _) (by show _ ≤ g2; omega) _) (by show _ ≤ g2; omega) _) hw⟩
end Go.Proofs.Ytllokfcappfkiaa
