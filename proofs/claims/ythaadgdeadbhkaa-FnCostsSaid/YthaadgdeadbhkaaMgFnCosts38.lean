/-
  l28Round of the reference: the region that stores a product (printed by wip/gen_sr14.py).
-/
import Derived.Test.YthaadgdeadbhkaaMgFnCosts35
import Derived.Test.YthaadgdeadbhkaaMgFnCosts24
namespace Go.Proofs.Ythaadgdeadbhkaa
open Go.RowKit
set_option linter.unusedVariables false
set_option linter.unusedSimpArgs false
set_option maxHeartbeats 8000000 in
set_option maxRecDepth 1000000 in
theorem sreg14_c (k : KM) (vs : List AuM) (tx : TrM) (D1 E1 : Int) (A T0 T1 T2 T3 T4 T5 : Option Addr) (ca d0 d1 d2 d3 d4 d5 g gt go gv vw sb so ns cs j i : Nat) (F5 : List Nat) (wi : World)
    (V5 : wi.cell? ⟨g, 5, none⟩ = some (.slice (some ⟨gv, 0, none⟩) vs.length vw)) (K0 : wi.cell? ⟨g, 0, none⟩ = some (.int .i64 k.p)) (K1 : wi.cell? ⟨g, 1, none⟩ = some (.slice A k.al.length ca)) (BT : Blk wi gt 46 #[.slice T0 tx.a.sh.length d0, .slice T1 tx.a.mc.length d1, .slice T2 tx.b.sh.length d2, .slice T3 tx.b.mc.length d3, .slice T4 tx.c.sh.length d4, .slice T5 tx.c.mc.length d5])
    (BO : Blk wi go 108 #[.int .i64 D1, .int .i64 E1]) (S9 : wi.cell? ⟨sb, so + j, none⟩ = some (.int .i64 i)) (hlt : j < ns) (hiv : i < vs.length)
    (o5 : (cauths vs).own wi F5 (.slice (some ⟨gv, 0, none⟩) vs.length vw)) (l5 : ∀ y ∈ F5, y < wi.heap.size) (hgv : gv ∈ F5)
    (hk : AggR wi (ckeys k) (.agg #[.int .i64 k.p, .slice A k.al.length ca])) (ht : TrC wi tx T0 T1 T2 T3 T4 T5 d0 d1 d2 d3 d4 d5)
    (wk : kwf k) (wx_ : twf tx) (f1 : formB k tx.a = true) (f2 : formB k tx.b = true) (f3 : formB k tx.c = true) (ed : elemB k.p D1 = true) (ee : elemB k.p E1 = true)
    (Q : Exit → Act → World → Prop) (s2 s3 s4 s5 s6 s7 s8 s10 s12 s13 s15 s16 s17 s18 s19 s20 s21 s22 s23 s24 s25 s26 s27 s28 s29 s30 s31 s32 s33 s34 s35 s36 s37 s38 s39 s40 s41 s42 s43 s44 s45 s46 s47 s48 s49 s50 s51 s52 s53 s54 s55 s56 s57 s58 s59 s60 s61 s62 s63 s64 s65 s66 s67 s68 s69 s70 s71 s72 s73 s74 s75 s76 s77 s78 s79 s80 s81 s82 s83 s84 s85 s86 s87 s88 s89 s90 s91 s92 s93 s94 s95 s96 s97 s98 s99 s100 s101 s102 s103 s104 s105 s106 s107 s108 s109 s110 s111 s112 s113 s114 s115 s116 s117 s118 s119 s120 s121 s122 s123 s124 s125 s126 s127 s128 s129 s130 s131 s132 s133 s134 s135 s136 s137 s138 s139 s140 s141 s142 s143 s144 s145 s146 s147 s148 s149 s150 s151 s152 s153 s154 s155 s156 s157 s158 s159 s160 s161 s162 s163 : Value)
    (hQ : ∀ (v138 v139 v140 v141 v142 v143 v144 v145 v146 v147 v148 v149 v150 v151 v152 v153 : Value) (w' : World), (∃ F', (cauths (vs.set i (tripleUse k tx D1 E1))).own w' F' (.slice (some ⟨gv, 0, none⟩) vs.length vw) ∧ ∀ y ∈ F', y ∈ F5 ∨ wi.heap.size ≤ y) → Chg (fun y => y ∈ F5) wi w' → Q .normal (⟨List.toArray ((.pointer (some ⟨g, 0, none⟩)) :: (.slice (some ⟨sb, so, none⟩) ns cs) :: s2 :: s3 :: s4 :: s5 :: s6 :: s7 :: s8 :: (.int .i64 j) :: s10 :: (.pointer (some ⟨gt, 0, none⟩)) :: s12 :: s13 :: (.pointer (some ⟨go, 0, none⟩)) :: s15 :: s16 :: s17 :: s18 :: s19 :: s20 :: s21 :: s22 :: s23 :: s24 :: s25 :: s26 :: s27 :: s28 :: s29 :: s30 :: s31 :: s32 :: s33 :: s34 :: s35 :: s36 :: s37 :: s38 :: s39 :: s40 :: s41 :: s42 :: s43 :: s44 :: s45 :: s46 :: s47 :: s48 :: s49 :: s50 :: s51 :: s52 :: s53 :: s54 :: s55 :: s56 :: s57 :: s58 :: s59 :: s60 :: s61 :: s62 :: s63 :: s64 :: s65 :: s66 :: s67 :: s68 :: s69 :: s70 :: s71 :: s72 :: s73 :: s74 :: s75 :: s76 :: s77 :: s78 :: s79 :: s80 :: s81 :: s82 :: s83 :: s84 :: s85 :: s86 :: s87 :: s88 :: s89 :: s90 :: s91 :: s92 :: s93 :: s94 :: s95 :: s96 :: s97 :: s98 :: s99 :: s100 :: s101 :: s102 :: s103 :: s104 :: s105 :: s106 :: s107 :: s108 :: s109 :: s110 :: s111 :: s112 :: s113 :: s114 :: s115 :: s116 :: s117 :: s118 :: s119 :: s120 :: s121 :: s122 :: s123 :: s124 :: s125 :: s126 :: s127 :: s128 :: s129 :: s130 :: s131 :: s132 :: s133 :: s134 :: s135 :: s136 :: s137 :: v138 :: v139 :: v140 :: v141 :: v142 :: v143 :: v144 :: v145 :: v146 :: v147 :: v148 :: v149 :: v150 :: v151 :: v152 :: v153 :: s154 :: s155 :: s156 :: s157 :: s158 :: s159 :: s160 :: s161 :: s162 :: s163 :: []), []⟩ : Act) w') :
    Code.wp Try.prog (regNo Try.f89 14) Q (⟨List.toArray ((.pointer (some ⟨g, 0, none⟩)) :: (.slice (some ⟨sb, so, none⟩) ns cs) :: s2 :: s3 :: s4 :: s5 :: s6 :: s7 :: s8 :: (.int .i64 j) :: s10 :: (.pointer (some ⟨gt, 0, none⟩)) :: s12 :: s13 :: (.pointer (some ⟨go, 0, none⟩)) :: s15 :: s16 :: s17 :: s18 :: s19 :: s20 :: s21 :: s22 :: s23 :: s24 :: s25 :: s26 :: s27 :: s28 :: s29 :: s30 :: s31 :: s32 :: s33 :: s34 :: s35 :: s36 :: s37 :: s38 :: s39 :: s40 :: s41 :: s42 :: s43 :: s44 :: s45 :: s46 :: s47 :: s48 :: s49 :: s50 :: s51 :: s52 :: s53 :: s54 :: s55 :: s56 :: s57 :: s58 :: s59 :: s60 :: s61 :: s62 :: s63 :: s64 :: s65 :: s66 :: s67 :: s68 :: s69 :: s70 :: s71 :: s72 :: s73 :: s74 :: s75 :: s76 :: s77 :: s78 :: s79 :: s80 :: s81 :: s82 :: s83 :: s84 :: s85 :: s86 :: s87 :: s88 :: s89 :: s90 :: s91 :: s92 :: s93 :: s94 :: s95 :: s96 :: s97 :: s98 :: s99 :: s100 :: s101 :: s102 :: s103 :: s104 :: s105 :: s106 :: s107 :: s108 :: s109 :: s110 :: s111 :: s112 :: s113 :: s114 :: s115 :: s116 :: s117 :: s118 :: s119 :: s120 :: s121 :: s122 :: s123 :: s124 :: s125 :: s126 :: s127 :: s128 :: s129 :: s130 :: s131 :: s132 :: s133 :: s134 :: s135 :: s136 :: s137 :: s138 :: s139 :: s140 :: s141 :: s142 :: s143 :: s144 :: s145 :: s146 :: s147 :: s148 :: s149 :: s150 :: s151 :: s152 :: s153 :: s154 :: s155 :: s156 :: s157 :: s158 :: s159 :: s160 :: s161 :: s162 :: s163 :: []), []⟩ : Act) wi := by
  conv => arg 2; whnf
  have HQ := Lib.hid hQ
  have KY := Lib.hid hk
  have HT := Lib.hid ht
  have WK := Lib.hid wk
  have WX := Lib.hid wx_
  have HFX := Lib.hid (And.intro f1 (And.intro f2 f3))
  have ED := Lib.hid ed
  have EE := Lib.hid ee
  have V5 := Lib.hid V5
  have O5 := Lib.hid o5
  have LT5 := Lib.hid l5
  have kw0 := Lib.hid K0
  have kw1 := Lib.hid K1
  have S9w := Lib.hid S9
  have dw0 := Lib.hid (BO.cell 0)
  have ew0 := Lib.hid (BO.cell 1)
  have tw0 := Lib.hid (BT.cell 0)
  have tw1 := Lib.hid (BT.cell 1)
  have tw2 := Lib.hid (BT.cell 2)
  have tw3 := Lib.hid (BT.cell 3)
  have tw4 := Lib.hid (BT.cell 4)
  have tw5 := Lib.hid (BT.cell 5)
  simp only [List.getElem?_toArray, List.getElem?_cons_succ, List.getElem?_cons_zero] at dw0 ew0 tw0 tw1 tw2 tw3 tw4 tw5
  have i1 : (j : Int) < (ns : Int) := by omega
  have hiv' : (i : Int) < (vs.length : Int) := by omega
  clear hQ hk ht wk wx_ f1 f2 f3 ed ee K0 K1 BT BO S9 o5 l5
  refine region_chain [.rd (.pointer (some ⟨g, 0, none⟩)), .rd (.pointer (some ⟨g, 0, none⟩)), .rd (.pointer (some ⟨g, 5, none⟩)), .rd (.slice (some ⟨gv, 0, none⟩) vs.length vw), .rd (.slice (some ⟨sb, so, none⟩) ns cs), .rd (.int .i64 j), .rd (.pointer (some ⟨sb, so + j, none⟩)), .rd (.int .i64 i), .rd (.pointer (some ⟨g, 0, none⟩)), .rd (.pointer (some ⟨g, 0, none⟩)), .rd (.pointer (some ⟨g, 0, none⟩)), .rd (.agg #[.int .i64 k.p, .slice A k.al.length ca]), .rd (.agg #[.slice T0 tx.a.sh.length d0, .slice T1 tx.a.mc.length d1, .slice T2 tx.b.sh.length d2, .slice T3 tx.b.mc.length d3, .slice T4 tx.c.sh.length d4, .slice T5 tx.c.mc.length d5]), .rd (.agg #[.int .i64 D1, .int .i64 E1]), .fl (autF wi.heap.size (tripleUse k tx D1 E1)), .rd (.pointer (some ⟨gv, i * 2, none⟩)), .ch] (fun _ => False)
    [⟨[], fun _ w' => wi.drew.grownBy w' none⟩,
     ⟨[], fun _ w' => (∃ F', (cauths (vs.set i (tripleUse k tx D1 E1))).own w' F' (.slice (some ⟨gv, 0, none⟩) vs.length vw) ∧ ∀ y ∈ F', y ∈ F5 ∨ wi.heap.size ≤ y) ∧ Chg (fun y => y ∈ F5) wi w'⟩]
    (by kernel_rfl) (by kernel_rfl) (by kernel_rfl) 1 (by kernel_rfl) ?_ (gbR _ _) rfl ?_ ?_
  · have hst : stablesF [⟨[], fun _ w' => wi.drew.grownBy w' none⟩, ⟨[], fun _ w' => (∃ F', (cauths (vs.set i (tripleUse k tx D1 E1))).own w' F' (.slice (some ⟨gv, 0, none⟩) vs.length vw) ∧ ∀ y ∈ F', y ∈ F5 ∨ wi.heap.size ≤ y) ∧ Chg (fun y => y ∈ F5) wi w'⟩] := by
      refine stF_cons (fun l w1 w2 h hg => gbT h hg) ?_
      exact stF_cons (chain_st fun l w1 w2 ⟨⟨F', h1, h2⟩, h3⟩ hg => ⟨⟨F', own_growK _ h1 hg, h2⟩, h3.trans (Chg.of hg (by simp))⟩) stF_nil
    simp only [flOk, true_and, and_true]
    exact ⟨autF_st, hst⟩
  · simp only [hopsK, hopK, Kd.next, and_true]
    refine ⟨?_, ?_, ?_, ?_, ?_, ?_, ?_, ?_, ?_, ?_, ?_, ?_, ?_, ?_, ?_, ?_, ?_⟩
    · intro f w4 hG hd
      have hg4 := gbT (gbD (gbR wi none)) (chgF hG)
      (try simp [depsC, dstAt, kAt, bindE, List.filter_cons, bd_data, bd_chain, bd_guard, bd_phase, bd_text, bd_gc] at hd)
      (first | simp [puts, dsts, Act.put, hd] | simp [puts, dsts, Act.put])
      clear hd
      go_wp2_with fail
      exact ⟨rfl, rfl⟩
    · intro f w4 hG hd
      have hg4 := gbT (gbD (gbR wi none)) (chgF hG)
      (try simp [depsC, dstAt, kAt, bindE, List.filter_cons, bd_data, bd_chain, bd_guard, bd_phase, bd_text, bd_gc] at hd)
      (first | simp [puts, dsts, Act.put, hd] | simp [puts, dsts, Act.put])
      clear hd
      go_wp2_with fail
      exact ⟨rfl, rfl⟩
    · intro f w4 hG hd
      have hg4 := gbT (gbD (gbR wi none)) (chgF hG)
      (try simp [depsC, dstAt, kAt, bindE, List.filter_cons, bd_data, bd_chain, bd_guard, bd_phase, bd_text, bd_gc] at hd)
      (first | simp [puts, dsts, Act.put, hd] | simp [puts, dsts, Act.put])
      clear hd
      go_wp2_with fail
      exact ⟨rfl, rfl⟩
    · intro f w4 hG hd
      have hg4 := gbT (gbD (gbR wi none)) (chgF hG)
      have k0 := gbk hg4 (V5.out)
      (try simp [depsC, dstAt, kAt, bindE, List.filter_cons, bd_data, bd_chain, bd_guard, bd_phase, bd_text, bd_gc] at hd)
      (first | simp [puts, dsts, Act.put, hd] | simp [puts, dsts, Act.put])
      clear hd
      go_wp2_with fail
      exact ⟨rfl, rfl⟩
    · intro f w4 hG hd
      have hg4 := gbT (gbD (gbR wi none)) (chgF hG)
      (try simp [depsC, dstAt, kAt, bindE, List.filter_cons, bd_data, bd_chain, bd_guard, bd_phase, bd_text, bd_gc] at hd)
      (first | simp [puts, dsts, Act.put, hd] | simp [puts, dsts, Act.put])
      clear hd
      go_wp2_with fail
      exact ⟨rfl, rfl⟩
    · intro f w4 hG hd
      have hg4 := gbT (gbD (gbR wi none)) (chgF hG)
      (try simp [depsC, dstAt, kAt, bindE, List.filter_cons, bd_data, bd_chain, bd_guard, bd_phase, bd_text, bd_gc] at hd)
      (first | simp [puts, dsts, Act.put, hd] | simp [puts, dsts, Act.put])
      clear hd
      go_wp2_with fail
      exact ⟨rfl, rfl⟩
    · intro f w4 hG hd
      have hg4 := gbT (gbD (gbR wi none)) (chgF hG)
      (try simp [depsC, dstAt, kAt, bindE, List.filter_cons, bd_data, bd_chain, bd_guard, bd_phase, bd_text, bd_gc] at hd)
      (first | simp [puts, dsts, Act.put, hd] | simp [puts, dsts, Act.put])
      clear hd
      go_wp2_with fail
      exact ⟨rfl, rfl⟩
    · intro f w4 hG hd
      have hg4 := gbT (gbD (gbR wi none)) (chgF hG)
      have k11 := gbk hg4 (S9w.out)
      (try simp [depsC, dstAt, kAt, bindE, List.filter_cons, bd_data, bd_chain, bd_guard, bd_phase, bd_text, bd_gc] at hd)
      (first | simp [puts, dsts, Act.put, hd] | simp [puts, dsts, Act.put])
      clear hd
      go_wp2_with fail
      exact ⟨rfl, rfl⟩
    · intro f w4 hG hd
      have hg4 := gbT (gbD (gbR wi none)) (chgF hG)
      (try simp [depsC, dstAt, kAt, bindE, List.filter_cons, bd_data, bd_chain, bd_guard, bd_phase, bd_text, bd_gc] at hd)
      (first | simp [puts, dsts, Act.put, hd] | simp [puts, dsts, Act.put])
      clear hd
      go_wp2_with fail
      exact ⟨rfl, rfl⟩
    · intro f w4 hG hd
      have hg4 := gbT (gbD (gbR wi none)) (chgF hG)
      (try simp [depsC, dstAt, kAt, bindE, List.filter_cons, bd_data, bd_chain, bd_guard, bd_phase, bd_text, bd_gc] at hd)
      (first | simp [puts, dsts, Act.put, hd] | simp [puts, dsts, Act.put])
      clear hd
      go_wp2_with fail
      exact ⟨rfl, rfl⟩
    · intro f w4 hG hd
      have hg4 := gbT (gbD (gbR wi none)) (chgF hG)
      (try simp [depsC, dstAt, kAt, bindE, List.filter_cons, bd_data, bd_chain, bd_guard, bd_phase, bd_text, bd_gc] at hd)
      (first | simp [puts, dsts, Act.put, hd] | simp [puts, dsts, Act.put])
      clear hd
      go_wp2_with fail
      exact ⟨rfl, rfl⟩
    · intro f w4 hG hd
      have hg4 := gbT (gbD (gbR wi none)) (chgF hG)
      have k1 := gbk hg4 (kw0.out)
      have k2 := gbk hg4 (kw1.out)
      (try simp [depsC, dstAt, kAt, bindE, List.filter_cons, bd_data, bd_chain, bd_guard, bd_phase, bd_text, bd_gc] at hd)
      (first | simp [puts, dsts, Act.put, hd] | simp [puts, dsts, Act.put])
      clear hd
      go_wp2_with fail
      exact ⟨rfl, rfl⟩
    · intro f w4 hG hd
      have hg4 := gbT (gbD (gbR wi none)) (chgF hG)
      have k3 := gbk hg4 (tw0.out)
      have k4 := gbk hg4 (tw1.out)
      have k5 := gbk hg4 (tw2.out)
      have k6 := gbk hg4 (tw3.out)
      have k7 := gbk hg4 (tw4.out)
      have k8 := gbk hg4 (tw5.out)
      (try simp [depsC, dstAt, kAt, bindE, List.filter_cons, bd_data, bd_chain, bd_guard, bd_phase, bd_text, bd_gc] at hd)
      (first | simp [puts, dsts, Act.put, hd] | simp [puts, dsts, Act.put])
      clear hd
      go_wp2_with fail
      exact ⟨rfl, rfl⟩
    · intro f w4 hG hd
      have hg4 := gbT (gbD (gbR wi none)) (chgF hG)
      have k9 := gbk hg4 (dw0.out)
      have k10 := gbk hg4 (ew0.out)
      (try simp [depsC, dstAt, kAt, bindE, List.filter_cons, bd_data, bd_chain, bd_guard, bd_phase, bd_text, bd_gc] at hd)
      (first | simp [puts, dsts, Act.put, hd] | simp [puts, dsts, Act.put])
      clear hd
      go_wp2_with fail
      exact ⟨rfl, rfl⟩
    · intro f w4 hG hd
      have hg4 := gbT (gbD (gbR wi none)) (chgF hG)
      have hz4 := hg4.size
      (try simp [depsC, dstAt, kAt, bindE, List.filter_cons, bd_data, bd_chain, bd_guard, bd_phase, bd_text, bd_gc] at hd)
      (first | simp [puts, dsts, Act.put, hd] | simp [puts, dsts, Act.put])
      clear hd
      go_wp2_with fail
      refine (specTripleUse_y k tx D1 E1 _ _ w4 (KY.out.grow hg4) (HT.out.tr.grow hg4) WK.out WX.out HFX.out.1 HFX.out.2.1 HFX.out.2.2 ED.out EE.out).mono ?_
      rintro e' w6 ⟨v6, rfl, o6, g6⟩
      have O6 := Lib.hid (autF.lo o6 hz4)
      have G6' := Lib.hid g6
      clear o6 g6
      go_wp2_with fail
      exact ⟨_, rfl, O6.out, G6'.out⟩
    · intro f w4 hG hd
      have hg4 := gbT (gbD (gbR wi none)) (chgF hG)
      (try simp [depsC, dstAt, kAt, bindE, List.filter_cons, bd_data, bd_chain, bd_guard, bd_phase, bd_text, bd_gc] at hd)
      (first | simp [puts, dsts, Act.put, hd] | simp [puts, dsts, Act.put])
      clear hd
      go_wp2_with fail
      exact ⟨rfl, rfl⟩
    · intro f w4 hG hI hd
      have hg4 := gbT (gbD (gbR wi none)) (chgF hG)
      have hz4 := hg4.size
      (try simp [depsC, dstAt, kAt, bindE, List.filter_cons, bd_data, bd_chain, bd_guard, bd_phase, bd_text, bd_gc] at hd)
      have e78 := hd.1
      have h77 : autF wi.heap.size (tripleUse k tx D1 E1) (f 152) w4 := by first | exact hd.2 | exact hd.2.1
      obtain ⟨A9, n9, c9, B9, q9, d9, Fz, e77, hx, lx⟩ := autF.own h77
      have O4 := own_growK _ O5.out hg4
      obtain ⟨X0, x0, X1, x1, y0, y1, z0, z1, _⟩ := cauths_el O4 (i := i) hiv
      obtain ⟨F5', r1, r2⟩ := cauths_set O4 (i := i) hiv hx (fun y hy hy' => by have := lx y hy; have := LT5.out y hy'; omega)
      have hch : Chg (fun y => y ∈ F5) wi ((w4.setCell ⟨gv, i * 2, none⟩ (.slice A9 n9 c9)).setCell ⟨gv, i * 2 + 1, none⟩ (.slice B9 q9 d9)) := (Chg.of hg4 (by simp)).trans (((chgS w4 gv (i * 2) _).trans (chgS _ gv (i * 2 + 1) _)).mono (fun y hy => by rw [hy]; exact hgv))
      simp [puts, dsts, Act.put, e77, e78]
      go_wp2_with fail
      exact ⟨rfl, .bool false, ⟨F5', r1, fun y hy => (r2 y hy).imp id (lx y)⟩, hch⟩
  intro f wf hI hd
  simp only [puts, dsts, Act.put, List.filterMap_cons, List.filterMap_nil, List.setIfInBounds_toArray, List.set_cons_zero, List.set_cons_succ]
  obtain ⟨h1, h3⟩ := hI
  have HQ2 := HQ.out
  clear hd
  apply HQ2
  · exact h1
  · exact h3
end Go.Proofs.Ythaadgdeadbhkaa
