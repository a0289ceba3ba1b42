/-
  l28Round of the reference: the region that checks what was opened (printed by wip/gen_sr12.py).
-/
import Derived.Test.YthaadgdeadbhkaaMgFnCosts35
import Derived.Test.YthaadgdeadbhkaaMgFnCosts24
namespace Go.Proofs.Ythaadgdeadbhkaa
open Go.RowKit
set_option linter.unusedVariables false
set_option linter.unusedSimpArgs false
set_option maxHeartbeats 20000000 in
set_option maxRecDepth 1000000 in
theorem sreg12_c (k : KM) (xa xb : AuM) (tx : TrM) (D1 E1 : Int) (A Ba Ca Bb Cb T0 T1 T2 T3 T4 T5 : Option Addr) (na ca da fa db fb d0 d1 d2 d3 d4 d5 g gt ga gb go : Nat) (wh : World)
    (K0 : wh.cell? ⟨g, 0, none⟩ = some (.int .i64 k.p)) (K1 : wh.cell? ⟨g, 1, none⟩ = some (.slice A na ca)) (BT : Blk wh gt 46 #[.slice T0 tx.a.sh.length d0, .slice T1 tx.a.mc.length d1, .slice T2 tx.b.sh.length d2, .slice T3 tx.b.mc.length d3, .slice T4 tx.c.sh.length d4, .slice T5 tx.c.mc.length d5])
    (BA : Blk wh ga 44 #[.slice Ba xa.sh.length da, .slice Ca xa.mc.length fa]) (BB : Blk wh gb 44 #[.slice Bb xb.sh.length db, .slice Cb xb.mc.length fb]) (BO : Blk wh go 108 #[.int .i64 D1, .int .i64 E1])
    (hk : AggR wh (ckeys k) (.agg #[.int .i64 k.p, .slice A na ca])) (hxa : AggR wh (cauth xa) (.agg #[.slice Ba xa.sh.length da, .slice Ca xa.mc.length fa])) (hxb : AggR wh (cauth xb) (.agg #[.slice Bb xb.sh.length db, .slice Cb xb.mc.length fb])) (ht : TrC wh tx T0 T1 T2 T3 T4 T5 d0 d1 d2 d3 d4 d5)
    (wk : kwf k) (wxa : awf xa) (wxb : awf xb) (wx_ : twf tx) (hfl : fieldB k.p = true)
    (Q : Exit → Act → World → Prop) (s1 s2 s3 s4 s5 s6 s7 s8 s9 s10 s15 s16 s17 s18 s19 s20 s21 s22 s23 s24 s25 s26 s27 s28 s29 s30 s31 s32 s33 s34 s35 s36 s37 s38 s39 s40 s41 s42 s43 s44 s45 s46 s47 s48 s49 s50 s51 s52 s53 s54 s55 s56 s57 s58 s59 s60 s61 s62 s63 s64 s65 s66 s67 s68 s69 s70 s71 s72 s73 s74 s75 s76 s77 s78 s79 s80 s81 s82 s83 s84 s85 s86 s87 s88 s89 s90 s91 s92 s93 s94 s95 s96 s97 s98 s99 s100 s101 s102 s103 s104 s105 s106 s107 s108 s109 s110 s111 s112 s113 s114 s115 s116 s117 s118 s119 s120 s121 s122 s123 s124 s125 s126 s127 s128 s129 s130 s131 s132 s133 s134 s135 s136 s137 s138 s139 s140 s141 s142 s143 s144 s145 s146 s147 s148 s149 s150 s151 s152 s153 s154 s155 s156 s157 s158 s159 s160 s161 s162 s163 : Value)
    (hQ : ∀ (v101 v102 v103 v104 v105 v106 v107 v108 v109 v110 v111 v112 v113 v114 v115 v116 v117 v118 v119 v120 v121 v122 v123 v124 v125 v126 v127 v128 v129 v130 v131 v132 v133 : Value) (w' : World), wh.grownBy w' none → Q .normal (⟨List.toArray ((.pointer (some ⟨g, 0, none⟩)) :: s1 :: s2 :: s3 :: s4 :: s5 :: s6 :: s7 :: s8 :: s9 :: s10 :: (.pointer (some ⟨gt, 0, none⟩)) :: (.pointer (some ⟨ga, 0, none⟩)) :: (.pointer (some ⟨gb, 0, none⟩)) :: (.pointer (some ⟨go, 0, none⟩)) :: s15 :: s16 :: s17 :: s18 :: s19 :: s20 :: s21 :: s22 :: s23 :: s24 :: s25 :: s26 :: s27 :: s28 :: s29 :: s30 :: s31 :: s32 :: s33 :: s34 :: s35 :: s36 :: s37 :: s38 :: s39 :: s40 :: s41 :: s42 :: s43 :: s44 :: s45 :: s46 :: s47 :: s48 :: s49 :: s50 :: s51 :: s52 :: s53 :: s54 :: s55 :: s56 :: s57 :: s58 :: s59 :: s60 :: s61 :: s62 :: s63 :: s64 :: s65 :: s66 :: s67 :: s68 :: s69 :: s70 :: s71 :: s72 :: s73 :: s74 :: s75 :: s76 :: s77 :: s78 :: s79 :: s80 :: s81 :: s82 :: s83 :: s84 :: s85 :: s86 :: s87 :: s88 :: s89 :: s90 :: s91 :: s92 :: s93 :: s94 :: s95 :: s96 :: s97 :: s98 :: s99 :: s100 :: v101 :: v102 :: v103 :: v104 :: v105 :: v106 :: v107 :: v108 :: v109 :: v110 :: v111 :: v112 :: v113 :: v114 :: v115 :: v116 :: v117 :: v118 :: v119 :: v120 :: v121 :: v122 :: v123 :: v124 :: v125 :: v126 :: v127 :: v128 :: v129 :: v130 :: v131 :: v132 :: v133 :: (.bool (rb17 k xa xb tx D1 E1)) :: s135 :: s136 :: s137 :: s138 :: s139 :: s140 :: s141 :: s142 :: s143 :: s144 :: s145 :: s146 :: s147 :: s148 :: s149 :: s150 :: s151 :: s152 :: s153 :: s154 :: s155 :: s156 :: s157 :: s158 :: s159 :: s160 :: s161 :: s162 :: s163 :: []), []⟩ : Act) w') :
    Code.wp Try.prog (regNo Try.f89 12) Q (⟨List.toArray ((.pointer (some ⟨g, 0, none⟩)) :: s1 :: s2 :: s3 :: s4 :: s5 :: s6 :: s7 :: s8 :: s9 :: s10 :: (.pointer (some ⟨gt, 0, none⟩)) :: (.pointer (some ⟨ga, 0, none⟩)) :: (.pointer (some ⟨gb, 0, none⟩)) :: (.pointer (some ⟨go, 0, none⟩)) :: s15 :: s16 :: s17 :: s18 :: s19 :: s20 :: s21 :: s22 :: s23 :: s24 :: s25 :: s26 :: s27 :: s28 :: s29 :: s30 :: s31 :: s32 :: s33 :: s34 :: s35 :: s36 :: s37 :: s38 :: s39 :: s40 :: s41 :: s42 :: s43 :: s44 :: s45 :: s46 :: s47 :: s48 :: s49 :: s50 :: s51 :: s52 :: s53 :: s54 :: s55 :: s56 :: s57 :: s58 :: s59 :: s60 :: s61 :: s62 :: s63 :: s64 :: s65 :: s66 :: s67 :: s68 :: s69 :: s70 :: s71 :: s72 :: s73 :: s74 :: s75 :: s76 :: s77 :: s78 :: s79 :: s80 :: s81 :: s82 :: s83 :: s84 :: s85 :: s86 :: s87 :: s88 :: s89 :: s90 :: s91 :: s92 :: s93 :: s94 :: s95 :: s96 :: s97 :: s98 :: s99 :: s100 :: s101 :: s102 :: s103 :: s104 :: s105 :: s106 :: s107 :: s108 :: s109 :: s110 :: s111 :: s112 :: s113 :: s114 :: s115 :: s116 :: s117 :: s118 :: s119 :: s120 :: s121 :: s122 :: s123 :: s124 :: s125 :: s126 :: s127 :: s128 :: s129 :: s130 :: s131 :: s132 :: s133 :: s134 :: s135 :: s136 :: s137 :: s138 :: s139 :: s140 :: s141 :: s142 :: s143 :: s144 :: s145 :: s146 :: s147 :: s148 :: s149 :: s150 :: s151 :: s152 :: s153 :: s154 :: s155 :: s156 :: s157 :: s158 :: s159 :: s160 :: s161 :: s162 :: s163 :: []), []⟩ : Act) wh := by
  conv => arg 2; whnf
  have HQ := Lib.hid hQ
  have HK := Lib.hid hk
  have HXA := Lib.hid hxa
  have HXB := Lib.hid hxb
  have HT := Lib.hid ht
  have WK := Lib.hid wk
  have WXA := Lib.hid wxa
  have WXB := Lib.hid wxb
  have WX := Lib.hid wx_
  have HFL := Lib.hid hfl
  have kx0 := Lib.hid K0
  have kx1 := Lib.hid K1
  have dx0 := Lib.hid (BO.cell 0)
  have ex0 := Lib.hid (BO.cell 1)
  have ax0 := Lib.hid (BA.cell 0)
  have ax1 := Lib.hid (BA.cell 1)
  have bx0 := Lib.hid (BB.cell 0)
  have bx1 := Lib.hid (BB.cell 1)
  have tx0 := Lib.hid (BT.cell 0)
  have tx1 := Lib.hid (BT.cell 1)
  have tx2 := Lib.hid (BT.cell 2)
  have tx3 := Lib.hid (BT.cell 3)
  simp only [List.getElem?_toArray, List.getElem?_cons_succ, List.getElem?_cons_zero] at dx0 ex0 ax0 ax1 bx0 bx1 tx0 tx1 tx2 tx3
  have QQA : Hid (awf (minusA k xa tx.a)) := Lib.hid (awf_add wxa)
  have QQB : Hid (awf (minusA k xb tx.b)) := Lib.hid (awf_add wxb)
  have HB : Hid (rb17 k xa xb tx D1 E1 = (!macCheck k D1 (minusA k xa tx.a) || !macCheck k E1 (minusA k xb tx.b))) := rfl
  clear hQ hk hxa hxb ht wk wxa wxb wx_ K0 K1 BO BA BB BT hfl
  cases hm1 : macCheck k D1 (minusA k xa tx.a)
  · have M1 := Lib.hid hm1
    rw [hm1, Bool.not_false, Bool.true_or] at HB
    rw [HB.out] at HQ
    clear hm1
    refine region_grow [isV (.pointer (some ⟨g, 0, none⟩)), isV (.pointer (some ⟨g, 0, none⟩)), isV (.pointer (some ⟨g, 0, none⟩)), isV (.agg #[.int .i64 k.p, .slice A na ca]), isV (.pointer (some ⟨go, 0, none⟩)), isV (.int .i64 D1), isV (.pointer (some ⟨g, 0, none⟩)), isV (.pointer (some ⟨g, 0, none⟩)), isV (.pointer (some ⟨g, 0, none⟩)), isV (.agg #[.int .i64 k.p, .slice A na ca]), isV (.agg #[.slice Ba xa.sh.length da, .slice Ca xa.mc.length fa]), isV (.pointer (some ⟨gt, 0, none⟩)), isV (.agg #[.slice T0 tx.a.sh.length d0, .slice T1 tx.a.mc.length d1]), autF wh.heap.size (minusA k xa tx.a), isV (.bool false), isV (.bool true), isV (.bool true), isV (undef), isV (undef), isV (undef), isV (undef), isV (undef), isV (undef), isV (undef), isV (undef), isV (undef), isV (undef), isV (undef), isV (undef), isV (undef), isV (undef), isV (undef), isV (undef), isV (.bool true)] (by kernel_rfl) (by kernel_rfl) (by kernel_rfl) (sT_cons (isV_st _) (sT_cons (isV_st _) (sT_cons (isV_st _) (sT_cons (isV_st _) (sT_cons (isV_st _) (sT_cons (isV_st _) (sT_cons (isV_st _) (sT_cons (isV_st _) (sT_cons (isV_st _) (sT_cons (isV_st _) (sT_cons (isV_st _) (sT_cons (isV_st _) (sT_cons (isV_st _) (sT_cons (autF_st) (sT_cons (isV_st _) (sT_cons (isV_st _) (sT_cons (isV_st _) (sT_cons (isV_st _) (sT_cons (isV_st _) (sT_cons (isV_st _) (sT_cons (isV_st _) (sT_cons (isV_st _) (sT_cons (isV_st _) (sT_cons (isV_st _) (sT_cons (isV_st _) (sT_cons (isV_st _) (sT_cons (isV_st _) (sT_cons (isV_st _) (sT_cons (isV_st _) (sT_cons (isV_st _) (sT_cons (isV_st _) (sT_cons (isV_st _) (sT_cons (isV_st _) (sT_cons (isV_st _) sT_nil)))))))))))))))))))))))))))))))))) ?_ ?_
    · simp only [hops, and_true]
      refine ⟨?_, ?_, ?_, ?_, ?_, ?_, ?_, ?_, ?_, ?_, ?_, ?_, ?_, ?_, ?_, ?_, ?_, ?_, ?_, ?_, ?_, ?_, ?_, ?_, ?_, ?_, ?_, ?_, ?_, ?_, ?_, ?_, ?_, ?_⟩
      · intro f w1 hG hd
        have hg4 := gbT (gbD (gbR wh none)) hG
        simp [deps, tAt, isV] at hd
        first | simp [puts, dsts, Act.put, hd] | simp [puts, dsts, Act.put]
        clear hd
        go_wp2_with fail
        exact ⟨_, rfl, by with_reducible exact gbR _ _, by simp [tAt, isV]⟩
      · intro f w1 hG hd
        have hg4 := gbT (gbD (gbR wh none)) hG
        simp [deps, tAt, isV] at hd
        first | simp [puts, dsts, Act.put, hd] | simp [puts, dsts, Act.put]
        clear hd
        go_wp2_with fail
        exact ⟨_, rfl, by with_reducible exact gbR _ _, by simp [tAt, isV]⟩
      · intro f w1 hG hd
        have hg4 := gbT (gbD (gbR wh none)) hG
        simp [deps, tAt, isV] at hd
        first | simp [puts, dsts, Act.put, hd] | simp [puts, dsts, Act.put]
        clear hd
        go_wp2_with fail
        exact ⟨_, rfl, by with_reducible exact gbR _ _, by simp [tAt, isV]⟩
      · intro f w1 hG hd
        have hg4 := gbT (gbD (gbR wh none)) hG
        have k0 := gbk hg4 (kx0.out)
        have k1 := gbk hg4 (kx1.out)
        simp [deps, tAt, isV] at hd
        first | simp [puts, dsts, Act.put, hd] | simp [puts, dsts, Act.put]
        clear hd
        go_wp2_with fail
        exact ⟨_, rfl, by with_reducible exact gbR _ _, by simp [tAt, isV]⟩
      · intro f w1 hG hd
        have hg4 := gbT (gbD (gbR wh none)) hG
        simp [deps, tAt, isV] at hd
        first | simp [puts, dsts, Act.put, hd] | simp [puts, dsts, Act.put]
        clear hd
        go_wp2_with fail
        exact ⟨_, rfl, by with_reducible exact gbR _ _, by simp [tAt, isV]⟩
      · intro f w1 hG hd
        have hg4 := gbT (gbD (gbR wh none)) hG
        have k2 := gbk hg4 (dx0.out)
        simp [deps, tAt, isV] at hd
        first | simp [puts, dsts, Act.put, hd] | simp [puts, dsts, Act.put]
        clear hd
        go_wp2_with fail
        exact ⟨_, rfl, by with_reducible exact gbR _ _, by simp [tAt, isV]⟩
      · intro f w1 hG hd
        have hg4 := gbT (gbD (gbR wh none)) hG
        simp [deps, tAt, isV] at hd
        first | simp [puts, dsts, Act.put, hd] | simp [puts, dsts, Act.put]
        clear hd
        go_wp2_with fail
        exact ⟨_, rfl, by with_reducible exact gbR _ _, by simp [tAt, isV]⟩
      · intro f w1 hG hd
        have hg4 := gbT (gbD (gbR wh none)) hG
        simp [deps, tAt, isV] at hd
        first | simp [puts, dsts, Act.put, hd] | simp [puts, dsts, Act.put]
        clear hd
        go_wp2_with fail
        exact ⟨_, rfl, by with_reducible exact gbR _ _, by simp [tAt, isV]⟩
      · intro f w1 hG hd
        have hg4 := gbT (gbD (gbR wh none)) hG
        simp [deps, tAt, isV] at hd
        first | simp [puts, dsts, Act.put, hd] | simp [puts, dsts, Act.put]
        clear hd
        go_wp2_with fail
        exact ⟨_, rfl, by with_reducible exact gbR _ _, by simp [tAt, isV]⟩
      · intro f w1 hG hd
        have hg4 := gbT (gbD (gbR wh none)) hG
        have k0 := gbk hg4 (kx0.out)
        have k1 := gbk hg4 (kx1.out)
        simp [deps, tAt, isV] at hd
        first | simp [puts, dsts, Act.put, hd] | simp [puts, dsts, Act.put]
        clear hd
        go_wp2_with fail
        exact ⟨_, rfl, by with_reducible exact gbR _ _, by simp [tAt, isV]⟩
      · intro f w1 hG hd
        have hg4 := gbT (gbD (gbR wh none)) hG
        have k4 := gbk hg4 (ax0.out)
        have k5 := gbk hg4 (ax1.out)
        simp [deps, tAt, isV] at hd
        first | simp [puts, dsts, Act.put, hd] | simp [puts, dsts, Act.put]
        clear hd
        go_wp2_with fail
        exact ⟨_, rfl, by with_reducible exact gbR _ _, by simp [tAt, isV]⟩
      · intro f w1 hG hd
        have hg4 := gbT (gbD (gbR wh none)) hG
        simp [deps, tAt, isV] at hd
        first | simp [puts, dsts, Act.put, hd] | simp [puts, dsts, Act.put]
        clear hd
        go_wp2_with fail
        exact ⟨_, rfl, by with_reducible exact gbR _ _, by simp [tAt, isV]⟩
      · intro f w1 hG hd
        have hg4 := gbT (gbD (gbR wh none)) hG
        have k8 := gbk hg4 (tx0.out)
        have k9 := gbk hg4 (tx1.out)
        simp [deps, tAt, isV] at hd
        first | simp [puts, dsts, Act.put, hd] | simp [puts, dsts, Act.put]
        clear hd
        go_wp2_with fail
        exact ⟨_, rfl, by with_reducible exact gbR _ _, by simp [tAt, isV]⟩
      · intro f w1 hG hd
        have hg4 := gbT (gbD (gbR wh none)) hG
        simp [deps, tAt, isV] at hd
        first | simp [puts, dsts, Act.put, hd] | simp [puts, dsts, Act.put]
        clear hd
        go_wp2_with fail
        refine (specl28Minus_c k xa tx.a _ _ _ w1 (HK.out.grow hg4) (HXA.out.grow hg4) (HT.out.xa.grow hg4) WK.out WXA.out WX.out.1 HFL.out).mono ?_
        rintro e' w6 ⟨v6, rfl, o6, g6⟩
        have O6 := Lib.hid (autF.lo o6 hg4.size)
        have G6' := Lib.hid g6
        clear o6 g6
        go_wp2_with fail
        exact ⟨_, rfl, G6'.out, O6.out⟩
      · intro f w1 hG hd
        have hg4 := gbT (gbD (gbR wh none)) hG
        simp [deps, tAt, isV] at hd
        have e1 := hd.1
        have e2 := hd.2.1
        have h3 : autF wh.heap.size (minusA k xa tx.a) (f 114) w1 := by first | exact hd.2.2 | exact hd.2.2.1
        skip
        clear hd
        have e3 := autF.eq h3
        generalize s3A (agC 0 (f 114)) = P1 at e3
        generalize s3N (agC 0 (f 114)) = n1 at e3
        generalize s3C (agC 0 (f 114)) = c1 at e3
        generalize s3A (agC 1 (f 114)) = P2 at e3
        generalize s3N (agC 1 (f 114)) = n2 at e3
        generalize s3C (agC 1 (f 114)) = c2 at e3
        rw [e3] at h3
        have H3 := Lib.hid (autF.rd h3)
        clear h3
        simp [puts, dsts, Act.put, e1, e2, e3]
        clear e1 e2 e3
        go_wp2_with fail
        refine (specMacCheck_c k D1 (minusA k xa tx.a) _ _ w1 (HK.out.grow hg4) H3.out WK.out QQA.out).mono ?_
        rintro e' w6 ⟨rfl, hw⟩
        rw [M1.out]
        go_wp2_with fail
        exact ⟨_, rfl, hw, rfl⟩
      · intro f w1 hG hd
        have hg4 := gbT (gbD (gbR wh none)) hG
        simp [deps, tAt, isV] at hd
        first | simp [puts, dsts, Act.put, hd] | simp [puts, dsts, Act.put]
        clear hd
        go_wp2_with fail
        exact ⟨_, rfl, by with_reducible exact gbR _ _, by simp [tAt, isV]⟩
      · intro f w1 hG hd
        have hg4 := gbT (gbD (gbR wh none)) hG
        simp [deps, tAt, isV] at hd
        first | simp [puts, dsts, Act.put, hd] | simp [puts, dsts, Act.put]
        clear hd
        go_wp2_with fail
        exact ⟨_, rfl, by with_reducible exact gbR _ _, by simp [tAt, isV]⟩
      · intro f w1 hG hd
        have hg4 := gbT (gbD (gbR wh none)) hG
        simp [deps, tAt, isV] at hd
        first | simp [puts, dsts, Act.put, hd] | simp [puts, dsts, Act.put]
        clear hd
        go_wp2_with fail
        exact ⟨_, rfl, by with_reducible exact gbR _ _, by simp [tAt, isV]⟩
      · intro f w1 hG hd
        have hg4 := gbT (gbD (gbR wh none)) hG
        simp [deps, tAt, isV] at hd
        first | simp [puts, dsts, Act.put, hd] | simp [puts, dsts, Act.put]
        clear hd
        go_wp2_with fail
        exact ⟨_, rfl, by with_reducible exact gbR _ _, by simp [tAt, isV]⟩
      · intro f w1 hG hd
        have hg4 := gbT (gbD (gbR wh none)) hG
        simp [deps, tAt, isV] at hd
        first | simp [puts, dsts, Act.put, hd] | simp [puts, dsts, Act.put]
        clear hd
        go_wp2_with fail
        exact ⟨_, rfl, by with_reducible exact gbR _ _, by simp [tAt, isV]⟩
      · intro f w1 hG hd
        have hg4 := gbT (gbD (gbR wh none)) hG
        simp [deps, tAt, isV] at hd
        first | simp [puts, dsts, Act.put, hd] | simp [puts, dsts, Act.put]
        clear hd
        go_wp2_with fail
        exact ⟨_, rfl, by with_reducible exact gbR _ _, by simp [tAt, isV]⟩
      · intro f w1 hG hd
        have hg4 := gbT (gbD (gbR wh none)) hG
        simp [deps, tAt, isV] at hd
        first | simp [puts, dsts, Act.put, hd] | simp [puts, dsts, Act.put]
        clear hd
        go_wp2_with fail
        exact ⟨_, rfl, by with_reducible exact gbR _ _, by simp [tAt, isV]⟩
      · intro f w1 hG hd
        have hg4 := gbT (gbD (gbR wh none)) hG
        simp [deps, tAt, isV] at hd
        first | simp [puts, dsts, Act.put, hd] | simp [puts, dsts, Act.put]
        clear hd
        go_wp2_with fail
        exact ⟨_, rfl, by with_reducible exact gbR _ _, by simp [tAt, isV]⟩
      · intro f w1 hG hd
        have hg4 := gbT (gbD (gbR wh none)) hG
        simp [deps, tAt, isV] at hd
        first | simp [puts, dsts, Act.put, hd] | simp [puts, dsts, Act.put]
        clear hd
        go_wp2_with fail
        exact ⟨_, rfl, by with_reducible exact gbR _ _, by simp [tAt, isV]⟩
      · intro f w1 hG hd
        have hg4 := gbT (gbD (gbR wh none)) hG
        simp [deps, tAt, isV] at hd
        first | simp [puts, dsts, Act.put, hd] | simp [puts, dsts, Act.put]
        clear hd
        go_wp2_with fail
        exact ⟨_, rfl, by with_reducible exact gbR _ _, by simp [tAt, isV]⟩
      · intro f w1 hG hd
        have hg4 := gbT (gbD (gbR wh none)) hG
        simp [deps, tAt, isV] at hd
        first | simp [puts, dsts, Act.put, hd] | simp [puts, dsts, Act.put]
        clear hd
        go_wp2_with fail
        exact ⟨_, rfl, by with_reducible exact gbR _ _, by simp [tAt, isV]⟩
      · intro f w1 hG hd
        have hg4 := gbT (gbD (gbR wh none)) hG
        simp [deps, tAt, isV] at hd
        first | simp [puts, dsts, Act.put, hd] | simp [puts, dsts, Act.put]
        clear hd
        go_wp2_with fail
        exact ⟨_, rfl, by with_reducible exact gbR _ _, by simp [tAt, isV]⟩
      · intro f w1 hG hd
        have hg4 := gbT (gbD (gbR wh none)) hG
        simp [deps, tAt, isV] at hd
        first | simp [puts, dsts, Act.put, hd] | simp [puts, dsts, Act.put]
        clear hd
        go_wp2_with fail
        exact ⟨_, rfl, by with_reducible exact gbR _ _, by simp [tAt, isV]⟩
      · intro f w1 hG hd
        have hg4 := gbT (gbD (gbR wh none)) hG
        simp [deps, tAt, isV] at hd
        first | simp [puts, dsts, Act.put, hd] | simp [puts, dsts, Act.put]
        clear hd
        go_wp2_with fail
        exact ⟨_, rfl, by with_reducible exact gbR _ _, by simp [tAt, isV]⟩
      · intro f w1 hG hd
        have hg4 := gbT (gbD (gbR wh none)) hG
        simp [deps, tAt, isV] at hd
        first | simp [puts, dsts, Act.put, hd] | simp [puts, dsts, Act.put]
        clear hd
        go_wp2_with fail
        exact ⟨_, rfl, by with_reducible exact gbR _ _, by simp [tAt, isV]⟩
      · intro f w1 hG hd
        have hg4 := gbT (gbD (gbR wh none)) hG
        simp [deps, tAt, isV] at hd
        first | simp [puts, dsts, Act.put, hd] | simp [puts, dsts, Act.put]
        clear hd
        go_wp2_with fail
        exact ⟨_, rfl, by with_reducible exact gbR _ _, by simp [tAt, isV]⟩
      · intro f w1 hG hd
        have hg4 := gbT (gbD (gbR wh none)) hG
        simp [deps, tAt, isV] at hd
        first | simp [puts, dsts, Act.put, hd] | simp [puts, dsts, Act.put]
        clear hd
        go_wp2_with fail
        exact ⟨_, rfl, by with_reducible exact gbR _ _, by simp [tAt, isV]⟩
      · intro f w1 hG hd
        have hg4 := gbT (gbD (gbR wh none)) hG
        simp [deps, tAt, isV] at hd
        first | simp [puts, dsts, Act.put, hd] | simp [puts, dsts, Act.put]
        clear hd
        go_wp2_with fail
        exact ⟨_, rfl, by with_reducible exact gbR _ _, by simp [tAt, isV]⟩
      · intro f w1 hG hd
        have hg4 := gbT (gbD (gbR wh none)) hG
        simp [deps, tAt, isV] at hd
        first | simp [puts, dsts, Act.put, hd] | simp [puts, dsts, Act.put]
        clear hd
        go_wp2_with fail
        exact ⟨_, rfl, by with_reducible exact gbR _ _, by simp [tAt, isV]⟩
    intro f w5 hG hd
    simp [knows, tAt, isV] at hd
    obtain ⟨h0_, h1_, h2_, h3_, h4_, h5_, h6_, h7_, h8_, h9_, h10_, h11_, h12_, h13_, h14_, h15_, h16_, h17_, h18_, h19_, h20_, h21_, h22_, h23_, h24_, h25_, h26_, h27_, h28_, h29_, h30_, h31_, h32_, h33_⟩ := hd
    simp only [puts, dsts, Act.put, h0_, h1_, h2_, h3_, h4_, h5_, h6_, h7_, h8_, h9_, h10_, h11_, h12_, h13_, h14_, h15_, h16_, h17_, h18_, h19_, h20_, h21_, h22_, h23_, h24_, h25_, h26_, h27_, h28_, h29_, h30_, h31_, h32_, h33_, List.filterMap_cons, List.filterMap_nil, List.setIfInBounds_toArray, List.set_cons_zero, List.set_cons_succ]
    clear h0_ h1_ h2_ h3_ h4_ h5_ h6_ h7_ h8_ h9_ h10_ h11_ h12_ h13_ h14_ h15_ h16_ h17_ h18_ h19_ h20_ h21_ h22_ h23_ h24_ h25_ h26_ h27_ h28_ h29_ h30_ h31_ h32_ h33_
    have g5 := gbT (gbD (gbR wh none)) hG
    clear hG
    have HQ2 := HQ.out
    apply HQ2
    exact g5
  have M1 := Lib.hid hm1
  rw [hm1, Bool.not_true, Bool.false_or] at HB
  clear hm1
  cases hm2 : macCheck k E1 (minusA k xb tx.b)
  · have M2 := Lib.hid hm2
    rw [hm2, Bool.not_false] at HB
    rw [HB.out] at HQ
    clear hm2
    refine region_grow [isV (.pointer (some ⟨g, 0, none⟩)), isV (.pointer (some ⟨g, 0, none⟩)), isV (.pointer (some ⟨g, 0, none⟩)), isV (.agg #[.int .i64 k.p, .slice A na ca]), isV (.pointer (some ⟨go, 0, none⟩)), isV (.int .i64 D1), isV (.pointer (some ⟨g, 0, none⟩)), isV (.pointer (some ⟨g, 0, none⟩)), isV (.pointer (some ⟨g, 0, none⟩)), isV (.agg #[.int .i64 k.p, .slice A na ca]), isV (.agg #[.slice Ba xa.sh.length da, .slice Ca xa.mc.length fa]), isV (.pointer (some ⟨gt, 0, none⟩)), isV (.agg #[.slice T0 tx.a.sh.length d0, .slice T1 tx.a.mc.length d1]), autF wh.heap.size (minusA k xa tx.a), isV (.bool true), isV (.bool false), isV (.bool false), isV (.pointer (some ⟨g, 0, none⟩)), isV (.pointer (some ⟨g, 0, none⟩)), isV (.pointer (some ⟨g, 0, none⟩)), isV (.agg #[.int .i64 k.p, .slice A na ca]), isV (.pointer (some ⟨go, 1, none⟩)), isV (.int .i64 E1), isV (.pointer (some ⟨g, 0, none⟩)), isV (.pointer (some ⟨g, 0, none⟩)), isV (.pointer (some ⟨g, 0, none⟩)), isV (.agg #[.int .i64 k.p, .slice A na ca]), isV (.agg #[.slice Bb xb.sh.length db, .slice Cb xb.mc.length fb]), isV (.pointer (some ⟨gt, 2, none⟩)), isV (.agg #[.slice T2 tx.b.sh.length d2, .slice T3 tx.b.mc.length d3]), autF wh.heap.size (minusA k xb tx.b), isV (.bool false), isV (.bool true), isV (.bool true)] (by kernel_rfl) (by kernel_rfl) (by kernel_rfl) (sT_cons (isV_st _) (sT_cons (isV_st _) (sT_cons (isV_st _) (sT_cons (isV_st _) (sT_cons (isV_st _) (sT_cons (isV_st _) (sT_cons (isV_st _) (sT_cons (isV_st _) (sT_cons (isV_st _) (sT_cons (isV_st _) (sT_cons (isV_st _) (sT_cons (isV_st _) (sT_cons (isV_st _) (sT_cons (autF_st) (sT_cons (isV_st _) (sT_cons (isV_st _) (sT_cons (isV_st _) (sT_cons (isV_st _) (sT_cons (isV_st _) (sT_cons (isV_st _) (sT_cons (isV_st _) (sT_cons (isV_st _) (sT_cons (isV_st _) (sT_cons (isV_st _) (sT_cons (isV_st _) (sT_cons (isV_st _) (sT_cons (isV_st _) (sT_cons (isV_st _) (sT_cons (isV_st _) (sT_cons (isV_st _) (sT_cons (autF_st) (sT_cons (isV_st _) (sT_cons (isV_st _) (sT_cons (isV_st _) sT_nil)))))))))))))))))))))))))))))))))) ?_ ?_
    · simp only [hops, and_true]
      refine ⟨?_, ?_, ?_, ?_, ?_, ?_, ?_, ?_, ?_, ?_, ?_, ?_, ?_, ?_, ?_, ?_, ?_, ?_, ?_, ?_, ?_, ?_, ?_, ?_, ?_, ?_, ?_, ?_, ?_, ?_, ?_, ?_, ?_, ?_⟩
      · intro f w1 hG hd
        have hg4 := gbT (gbD (gbR wh none)) hG
        simp [deps, tAt, isV] at hd
        first | simp [puts, dsts, Act.put, hd] | simp [puts, dsts, Act.put]
        clear hd
        go_wp2_with fail
        exact ⟨_, rfl, by with_reducible exact gbR _ _, by simp [tAt, isV]⟩
      · intro f w1 hG hd
        have hg4 := gbT (gbD (gbR wh none)) hG
        simp [deps, tAt, isV] at hd
        first | simp [puts, dsts, Act.put, hd] | simp [puts, dsts, Act.put]
        clear hd
        go_wp2_with fail
        exact ⟨_, rfl, by with_reducible exact gbR _ _, by simp [tAt, isV]⟩
      · intro f w1 hG hd
        have hg4 := gbT (gbD (gbR wh none)) hG
        simp [deps, tAt, isV] at hd
        first | simp [puts, dsts, Act.put, hd] | simp [puts, dsts, Act.put]
        clear hd
        go_wp2_with fail
        exact ⟨_, rfl, by with_reducible exact gbR _ _, by simp [tAt, isV]⟩
      · intro f w1 hG hd
        have hg4 := gbT (gbD (gbR wh none)) hG
        have k0 := gbk hg4 (kx0.out)
        have k1 := gbk hg4 (kx1.out)
        simp [deps, tAt, isV] at hd
        first | simp [puts, dsts, Act.put, hd] | simp [puts, dsts, Act.put]
        clear hd
        go_wp2_with fail
        exact ⟨_, rfl, by with_reducible exact gbR _ _, by simp [tAt, isV]⟩
      · intro f w1 hG hd
        have hg4 := gbT (gbD (gbR wh none)) hG
        simp [deps, tAt, isV] at hd
        first | simp [puts, dsts, Act.put, hd] | simp [puts, dsts, Act.put]
        clear hd
        go_wp2_with fail
        exact ⟨_, rfl, by with_reducible exact gbR _ _, by simp [tAt, isV]⟩
      · intro f w1 hG hd
        have hg4 := gbT (gbD (gbR wh none)) hG
        have k2 := gbk hg4 (dx0.out)
        simp [deps, tAt, isV] at hd
        first | simp [puts, dsts, Act.put, hd] | simp [puts, dsts, Act.put]
        clear hd
        go_wp2_with fail
        exact ⟨_, rfl, by with_reducible exact gbR _ _, by simp [tAt, isV]⟩
      · intro f w1 hG hd
        have hg4 := gbT (gbD (gbR wh none)) hG
        simp [deps, tAt, isV] at hd
        first | simp [puts, dsts, Act.put, hd] | simp [puts, dsts, Act.put]
        clear hd
        go_wp2_with fail
        exact ⟨_, rfl, by with_reducible exact gbR _ _, by simp [tAt, isV]⟩
      · intro f w1 hG hd
        have hg4 := gbT (gbD (gbR wh none)) hG
        simp [deps, tAt, isV] at hd
        first | simp [puts, dsts, Act.put, hd] | simp [puts, dsts, Act.put]
        clear hd
        go_wp2_with fail
        exact ⟨_, rfl, by with_reducible exact gbR _ _, by simp [tAt, isV]⟩
      · intro f w1 hG hd
        have hg4 := gbT (gbD (gbR wh none)) hG
        simp [deps, tAt, isV] at hd
        first | simp [puts, dsts, Act.put, hd] | simp [puts, dsts, Act.put]
        clear hd
        go_wp2_with fail
        exact ⟨_, rfl, by with_reducible exact gbR _ _, by simp [tAt, isV]⟩
      · intro f w1 hG hd
        have hg4 := gbT (gbD (gbR wh none)) hG
        have k0 := gbk hg4 (kx0.out)
        have k1 := gbk hg4 (kx1.out)
        simp [deps, tAt, isV] at hd
        first | simp [puts, dsts, Act.put, hd] | simp [puts, dsts, Act.put]
        clear hd
        go_wp2_with fail
        exact ⟨_, rfl, by with_reducible exact gbR _ _, by simp [tAt, isV]⟩
      · intro f w1 hG hd
        have hg4 := gbT (gbD (gbR wh none)) hG
        have k4 := gbk hg4 (ax0.out)
        have k5 := gbk hg4 (ax1.out)
        simp [deps, tAt, isV] at hd
        first | simp [puts, dsts, Act.put, hd] | simp [puts, dsts, Act.put]
        clear hd
        go_wp2_with fail
        exact ⟨_, rfl, by with_reducible exact gbR _ _, by simp [tAt, isV]⟩
      · intro f w1 hG hd
        have hg4 := gbT (gbD (gbR wh none)) hG
        simp [deps, tAt, isV] at hd
        first | simp [puts, dsts, Act.put, hd] | simp [puts, dsts, Act.put]
        clear hd
        go_wp2_with fail
        exact ⟨_, rfl, by with_reducible exact gbR _ _, by simp [tAt, isV]⟩
      · intro f w1 hG hd
        have hg4 := gbT (gbD (gbR wh none)) hG
        have k8 := gbk hg4 (tx0.out)
        have k9 := gbk hg4 (tx1.out)
        simp [deps, tAt, isV] at hd
        first | simp [puts, dsts, Act.put, hd] | simp [puts, dsts, Act.put]
        clear hd
        go_wp2_with fail
        exact ⟨_, rfl, by with_reducible exact gbR _ _, by simp [tAt, isV]⟩
      · intro f w1 hG hd
        have hg4 := gbT (gbD (gbR wh none)) hG
        simp [deps, tAt, isV] at hd
        first | simp [puts, dsts, Act.put, hd] | simp [puts, dsts, Act.put]
        clear hd
        go_wp2_with fail
        refine (specl28Minus_c k xa tx.a _ _ _ w1 (HK.out.grow hg4) (HXA.out.grow hg4) (HT.out.xa.grow hg4) WK.out WXA.out WX.out.1 HFL.out).mono ?_
        rintro e' w6 ⟨v6, rfl, o6, g6⟩
        have O6 := Lib.hid (autF.lo o6 hg4.size)
        have G6' := Lib.hid g6
        clear o6 g6
        go_wp2_with fail
        exact ⟨_, rfl, G6'.out, O6.out⟩
      · intro f w1 hG hd
        have hg4 := gbT (gbD (gbR wh none)) hG
        simp [deps, tAt, isV] at hd
        have e1 := hd.1
        have e2 := hd.2.1
        have h3 : autF wh.heap.size (minusA k xa tx.a) (f 114) w1 := by first | exact hd.2.2 | exact hd.2.2.1
        skip
        clear hd
        have e3 := autF.eq h3
        generalize s3A (agC 0 (f 114)) = P1 at e3
        generalize s3N (agC 0 (f 114)) = n1 at e3
        generalize s3C (agC 0 (f 114)) = c1 at e3
        generalize s3A (agC 1 (f 114)) = P2 at e3
        generalize s3N (agC 1 (f 114)) = n2 at e3
        generalize s3C (agC 1 (f 114)) = c2 at e3
        rw [e3] at h3
        have H3 := Lib.hid (autF.rd h3)
        clear h3
        simp [puts, dsts, Act.put, e1, e2, e3]
        clear e1 e2 e3
        go_wp2_with fail
        refine (specMacCheck_c k D1 (minusA k xa tx.a) _ _ w1 (HK.out.grow hg4) H3.out WK.out QQA.out).mono ?_
        rintro e' w6 ⟨rfl, hw⟩
        rw [M1.out]
        go_wp2_with fail
        exact ⟨_, rfl, hw, rfl⟩
      · intro f w1 hG hd
        have hg4 := gbT (gbD (gbR wh none)) hG
        simp [deps, tAt, isV] at hd
        first | simp [puts, dsts, Act.put, hd] | simp [puts, dsts, Act.put]
        clear hd
        go_wp2_with fail
        exact ⟨_, rfl, by with_reducible exact gbR _ _, by simp [tAt, isV]⟩
      · intro f w1 hG hd
        have hg4 := gbT (gbD (gbR wh none)) hG
        simp [deps, tAt, isV] at hd
        first | simp [puts, dsts, Act.put, hd] | simp [puts, dsts, Act.put]
        clear hd
        go_wp2_with fail
        exact ⟨_, rfl, by with_reducible exact gbR _ _, by simp [tAt, isV]⟩
      · intro f w1 hG hd
        have hg4 := gbT (gbD (gbR wh none)) hG
        simp [deps, tAt, isV] at hd
        first | simp [puts, dsts, Act.put, hd] | simp [puts, dsts, Act.put]
        clear hd
        go_wp2_with fail
        exact ⟨_, rfl, by with_reducible exact gbR _ _, by simp [tAt, isV]⟩
      · intro f w1 hG hd
        have hg4 := gbT (gbD (gbR wh none)) hG
        simp [deps, tAt, isV] at hd
        first | simp [puts, dsts, Act.put, hd] | simp [puts, dsts, Act.put]
        clear hd
        go_wp2_with fail
        exact ⟨_, rfl, by with_reducible exact gbR _ _, by simp [tAt, isV]⟩
      · intro f w1 hG hd
        have hg4 := gbT (gbD (gbR wh none)) hG
        simp [deps, tAt, isV] at hd
        first | simp [puts, dsts, Act.put, hd] | simp [puts, dsts, Act.put]
        clear hd
        go_wp2_with fail
        exact ⟨_, rfl, by with_reducible exact gbR _ _, by simp [tAt, isV]⟩
      · intro f w1 hG hd
        have hg4 := gbT (gbD (gbR wh none)) hG
        have k0 := gbk hg4 (kx0.out)
        have k1 := gbk hg4 (kx1.out)
        simp [deps, tAt, isV] at hd
        first | simp [puts, dsts, Act.put, hd] | simp [puts, dsts, Act.put]
        clear hd
        go_wp2_with fail
        exact ⟨_, rfl, by with_reducible exact gbR _ _, by simp [tAt, isV]⟩
      · intro f w1 hG hd
        have hg4 := gbT (gbD (gbR wh none)) hG
        simp [deps, tAt, isV] at hd
        first | simp [puts, dsts, Act.put, hd] | simp [puts, dsts, Act.put]
        clear hd
        go_wp2_with fail
        exact ⟨_, rfl, by with_reducible exact gbR _ _, by simp [tAt, isV]⟩
      · intro f w1 hG hd
        have hg4 := gbT (gbD (gbR wh none)) hG
        have k3 := gbk hg4 (ex0.out)
        simp [deps, tAt, isV] at hd
        first | simp [puts, dsts, Act.put, hd] | simp [puts, dsts, Act.put]
        clear hd
        go_wp2_with fail
        exact ⟨_, rfl, by with_reducible exact gbR _ _, by simp [tAt, isV]⟩
      · intro f w1 hG hd
        have hg4 := gbT (gbD (gbR wh none)) hG
        simp [deps, tAt, isV] at hd
        first | simp [puts, dsts, Act.put, hd] | simp [puts, dsts, Act.put]
        clear hd
        go_wp2_with fail
        exact ⟨_, rfl, by with_reducible exact gbR _ _, by simp [tAt, isV]⟩
      · intro f w1 hG hd
        have hg4 := gbT (gbD (gbR wh none)) hG
        simp [deps, tAt, isV] at hd
        first | simp [puts, dsts, Act.put, hd] | simp [puts, dsts, Act.put]
        clear hd
        go_wp2_with fail
        exact ⟨_, rfl, by with_reducible exact gbR _ _, by simp [tAt, isV]⟩
      · intro f w1 hG hd
        have hg4 := gbT (gbD (gbR wh none)) hG
        simp [deps, tAt, isV] at hd
        first | simp [puts, dsts, Act.put, hd] | simp [puts, dsts, Act.put]
        clear hd
        go_wp2_with fail
        exact ⟨_, rfl, by with_reducible exact gbR _ _, by simp [tAt, isV]⟩
      · intro f w1 hG hd
        have hg4 := gbT (gbD (gbR wh none)) hG
        have k0 := gbk hg4 (kx0.out)
        have k1 := gbk hg4 (kx1.out)
        simp [deps, tAt, isV] at hd
        first | simp [puts, dsts, Act.put, hd] | simp [puts, dsts, Act.put]
        clear hd
        go_wp2_with fail
        exact ⟨_, rfl, by with_reducible exact gbR _ _, by simp [tAt, isV]⟩
      · intro f w1 hG hd
        have hg4 := gbT (gbD (gbR wh none)) hG
        have k6 := gbk hg4 (bx0.out)
        have k7 := gbk hg4 (bx1.out)
        simp [deps, tAt, isV] at hd
        first | simp [puts, dsts, Act.put, hd] | simp [puts, dsts, Act.put]
        clear hd
        go_wp2_with fail
        exact ⟨_, rfl, by with_reducible exact gbR _ _, by simp [tAt, isV]⟩
      · intro f w1 hG hd
        have hg4 := gbT (gbD (gbR wh none)) hG
        simp [deps, tAt, isV] at hd
        first | simp [puts, dsts, Act.put, hd] | simp [puts, dsts, Act.put]
        clear hd
        go_wp2_with fail
        exact ⟨_, rfl, by with_reducible exact gbR _ _, by simp [tAt, isV]⟩
      · intro f w1 hG hd
        have hg4 := gbT (gbD (gbR wh none)) hG
        have k10 := gbk hg4 (tx2.out)
        have k11 := gbk hg4 (tx3.out)
        simp [deps, tAt, isV] at hd
        first | simp [puts, dsts, Act.put, hd] | simp [puts, dsts, Act.put]
        clear hd
        go_wp2_with fail
        exact ⟨_, rfl, by with_reducible exact gbR _ _, by simp [tAt, isV]⟩
      · intro f w1 hG hd
        have hg4 := gbT (gbD (gbR wh none)) hG
        simp [deps, tAt, isV] at hd
        first | simp [puts, dsts, Act.put, hd] | simp [puts, dsts, Act.put]
        clear hd
        go_wp2_with fail
        refine (specl28Minus_c k xb tx.b _ _ _ w1 (HK.out.grow hg4) (HXB.out.grow hg4) (HT.out.xb.grow hg4) WK.out WXB.out WX.out.2.1 HFL.out).mono ?_
        rintro e' w6 ⟨v6, rfl, o6, g6⟩
        have O6 := Lib.hid (autF.lo o6 hg4.size)
        have G6' := Lib.hid g6
        clear o6 g6
        go_wp2_with fail
        exact ⟨_, rfl, G6'.out, O6.out⟩
      · intro f w1 hG hd
        have hg4 := gbT (gbD (gbR wh none)) hG
        simp [deps, tAt, isV] at hd
        have e1 := hd.1
        have e2 := hd.2.1
        have h3 : autF wh.heap.size (minusA k xb tx.b) (f 131) w1 := by first | exact hd.2.2 | exact hd.2.2.1
        have e4 : f 117 = .bool false := by first | exact hd.2.2.2 | exact hd.2.2.2.1 | exact hd.2.2.2.2
        clear hd
        have e3 := autF.eq h3
        generalize s3A (agC 0 (f 131)) = P1 at e3
        generalize s3N (agC 0 (f 131)) = n1 at e3
        generalize s3C (agC 0 (f 131)) = c1 at e3
        generalize s3A (agC 1 (f 131)) = P2 at e3
        generalize s3N (agC 1 (f 131)) = n2 at e3
        generalize s3C (agC 1 (f 131)) = c2 at e3
        rw [e3] at h3
        have H3 := Lib.hid (autF.rd h3)
        clear h3
        simp [puts, dsts, Act.put, e1, e2, e3, e4]
        clear e1 e2 e3
        go_wp2_with fail
        refine (specMacCheck_c k E1 (minusA k xb tx.b) _ _ w1 (HK.out.grow hg4) H3.out WK.out QQB.out).mono ?_
        rintro e' w6 ⟨rfl, hw⟩
        rw [M2.out]
        go_wp2_with fail
        exact ⟨_, rfl, hw, rfl⟩
      · intro f w1 hG hd
        have hg4 := gbT (gbD (gbR wh none)) hG
        simp [deps, tAt, isV] at hd
        first | simp [puts, dsts, Act.put, hd] | simp [puts, dsts, Act.put]
        clear hd
        go_wp2_with fail
        exact ⟨_, rfl, by with_reducible exact gbR _ _, by simp [tAt, isV]⟩
      · intro f w1 hG hd
        have hg4 := gbT (gbD (gbR wh none)) hG
        simp [deps, tAt, isV] at hd
        first | simp [puts, dsts, Act.put, hd] | simp [puts, dsts, Act.put]
        clear hd
        go_wp2_with fail
        exact ⟨_, rfl, by with_reducible exact gbR _ _, by simp [tAt, isV]⟩
    intro f w5 hG hd
    simp [knows, tAt, isV] at hd
    obtain ⟨h0_, h1_, h2_, h3_, h4_, h5_, h6_, h7_, h8_, h9_, h10_, h11_, h12_, h13_, h14_, h15_, h16_, h17_, h18_, h19_, h20_, h21_, h22_, h23_, h24_, h25_, h26_, h27_, h28_, h29_, h30_, h31_, h32_, h33_⟩ := hd
    simp only [puts, dsts, Act.put, h0_, h1_, h2_, h3_, h4_, h5_, h6_, h7_, h8_, h9_, h10_, h11_, h12_, h13_, h14_, h15_, h16_, h17_, h18_, h19_, h20_, h21_, h22_, h23_, h24_, h25_, h26_, h27_, h28_, h29_, h30_, h31_, h32_, h33_, List.filterMap_cons, List.filterMap_nil, List.setIfInBounds_toArray, List.set_cons_zero, List.set_cons_succ]
    clear h0_ h1_ h2_ h3_ h4_ h5_ h6_ h7_ h8_ h9_ h10_ h11_ h12_ h13_ h14_ h15_ h16_ h17_ h18_ h19_ h20_ h21_ h22_ h23_ h24_ h25_ h26_ h27_ h28_ h29_ h30_ h31_ h32_ h33_
    have g5 := gbT (gbD (gbR wh none)) hG
    clear hG
    have HQ2 := HQ.out
    apply HQ2
    exact g5
  have M2 := Lib.hid hm2
  rw [hm2, Bool.not_true] at HB
  rw [HB.out] at HQ
  clear hm2
  refine region_grow [isV (.pointer (some ⟨g, 0, none⟩)), isV (.pointer (some ⟨g, 0, none⟩)), isV (.pointer (some ⟨g, 0, none⟩)), isV (.agg #[.int .i64 k.p, .slice A na ca]), isV (.pointer (some ⟨go, 0, none⟩)), isV (.int .i64 D1), isV (.pointer (some ⟨g, 0, none⟩)), isV (.pointer (some ⟨g, 0, none⟩)), isV (.pointer (some ⟨g, 0, none⟩)), isV (.agg #[.int .i64 k.p, .slice A na ca]), isV (.agg #[.slice Ba xa.sh.length da, .slice Ca xa.mc.length fa]), isV (.pointer (some ⟨gt, 0, none⟩)), isV (.agg #[.slice T0 tx.a.sh.length d0, .slice T1 tx.a.mc.length d1]), autF wh.heap.size (minusA k xa tx.a), isV (.bool true), isV (.bool false), isV (.bool false), isV (.pointer (some ⟨g, 0, none⟩)), isV (.pointer (some ⟨g, 0, none⟩)), isV (.pointer (some ⟨g, 0, none⟩)), isV (.agg #[.int .i64 k.p, .slice A na ca]), isV (.pointer (some ⟨go, 1, none⟩)), isV (.int .i64 E1), isV (.pointer (some ⟨g, 0, none⟩)), isV (.pointer (some ⟨g, 0, none⟩)), isV (.pointer (some ⟨g, 0, none⟩)), isV (.agg #[.int .i64 k.p, .slice A na ca]), isV (.agg #[.slice Bb xb.sh.length db, .slice Cb xb.mc.length fb]), isV (.pointer (some ⟨gt, 2, none⟩)), isV (.agg #[.slice T2 tx.b.sh.length d2, .slice T3 tx.b.mc.length d3]), autF wh.heap.size (minusA k xb tx.b), isV (.bool true), isV (.bool false), isV (.bool false)] (by kernel_rfl) (by kernel_rfl) (by kernel_rfl) (sT_cons (isV_st _) (sT_cons (isV_st _) (sT_cons (isV_st _) (sT_cons (isV_st _) (sT_cons (isV_st _) (sT_cons (isV_st _) (sT_cons (isV_st _) (sT_cons (isV_st _) (sT_cons (isV_st _) (sT_cons (isV_st _) (sT_cons (isV_st _) (sT_cons (isV_st _) (sT_cons (isV_st _) (sT_cons (autF_st) (sT_cons (isV_st _) (sT_cons (isV_st _) (sT_cons (isV_st _) (sT_cons (isV_st _) (sT_cons (isV_st _) (sT_cons (isV_st _) (sT_cons (isV_st _) (sT_cons (isV_st _) (sT_cons (isV_st _) (sT_cons (isV_st _) (sT_cons (isV_st _) (sT_cons (isV_st _) (sT_cons (isV_st _) (sT_cons (isV_st _) (sT_cons (isV_st _) (sT_cons (isV_st _) (sT_cons (autF_st) (sT_cons (isV_st _) (sT_cons (isV_st _) (sT_cons (isV_st _) sT_nil)))))))))))))))))))))))))))))))))) ?_ ?_
  · simp only [hops, and_true]
    refine ⟨?_, ?_, ?_, ?_, ?_, ?_, ?_, ?_, ?_, ?_, ?_, ?_, ?_, ?_, ?_, ?_, ?_, ?_, ?_, ?_, ?_, ?_, ?_, ?_, ?_, ?_, ?_, ?_, ?_, ?_, ?_, ?_, ?_, ?_⟩
    · intro f w1 hG hd
      have hg4 := gbT (gbD (gbR wh none)) hG
      simp [deps, tAt, isV] at hd
      first | simp [puts, dsts, Act.put, hd] | simp [puts, dsts, Act.put]
      clear hd
      go_wp2_with fail
      exact ⟨_, rfl, by with_reducible exact gbR _ _, by simp [tAt, isV]⟩
    · intro f w1 hG hd
      have hg4 := gbT (gbD (gbR wh none)) hG
      simp [deps, tAt, isV] at hd
      first | simp [puts, dsts, Act.put, hd] | simp [puts, dsts, Act.put]
      clear hd
      go_wp2_with fail
      exact ⟨_, rfl, by with_reducible exact gbR _ _, by simp [tAt, isV]⟩
    · intro f w1 hG hd
      have hg4 := gbT (gbD (gbR wh none)) hG
      simp [deps, tAt, isV] at hd
      first | simp [puts, dsts, Act.put, hd] | simp [puts, dsts, Act.put]
      clear hd
      go_wp2_with fail
      exact ⟨_, rfl, by with_reducible exact gbR _ _, by simp [tAt, isV]⟩
    · intro f w1 hG hd
      have hg4 := gbT (gbD (gbR wh none)) hG
      have k0 := gbk hg4 (kx0.out)
      have k1 := gbk hg4 (kx1.out)
      simp [deps, tAt, isV] at hd
      first | simp [puts, dsts, Act.put, hd] | simp [puts, dsts, Act.put]
      clear hd
      go_wp2_with fail
      exact ⟨_, rfl, by with_reducible exact gbR _ _, by simp [tAt, isV]⟩
    · intro f w1 hG hd
      have hg4 := gbT (gbD (gbR wh none)) hG
      simp [deps, tAt, isV] at hd
      first | simp [puts, dsts, Act.put, hd] | simp [puts, dsts, Act.put]
      clear hd
      go_wp2_with fail
      exact ⟨_, rfl, by with_reducible exact gbR _ _, by simp [tAt, isV]⟩
    · intro f w1 hG hd
      have hg4 := gbT (gbD (gbR wh none)) hG
      have k2 := gbk hg4 (dx0.out)
      simp [deps, tAt, isV] at hd
      first | simp [puts, dsts, Act.put, hd] | simp [puts, dsts, Act.put]
      clear hd
      go_wp2_with fail
      exact ⟨_, rfl, by with_reducible exact gbR _ _, by simp [tAt, isV]⟩
    · intro f w1 hG hd
      have hg4 := gbT (gbD (gbR wh none)) hG
      simp [deps, tAt, isV] at hd
      first | simp [puts, dsts, Act.put, hd] | simp [puts, dsts, Act.put]
      clear hd
      go_wp2_with fail
      exact ⟨_, rfl, by with_reducible exact gbR _ _, by simp [tAt, isV]⟩
    · intro f w1 hG hd
      have hg4 := gbT (gbD (gbR wh none)) hG
      simp [deps, tAt, isV] at hd
      first | simp [puts, dsts, Act.put, hd] | simp [puts, dsts, Act.put]
      clear hd
      go_wp2_with fail
      exact ⟨_, rfl, by with_reducible exact gbR _ _, by simp [tAt, isV]⟩
    · intro f w1 hG hd
      have hg4 := gbT (gbD (gbR wh none)) hG
      simp [deps, tAt, isV] at hd
      first | simp [puts, dsts, Act.put, hd] | simp [puts, dsts, Act.put]
      clear hd
      go_wp2_with fail
      exact ⟨_, rfl, by with_reducible exact gbR _ _, by simp [tAt, isV]⟩
    · intro f w1 hG hd
      have hg4 := gbT (gbD (gbR wh none)) hG
      have k0 := gbk hg4 (kx0.out)
      have k1 := gbk hg4 (kx1.out)
      simp [deps, tAt, isV] at hd
      first | simp [puts, dsts, Act.put, hd] | simp [puts, dsts, Act.put]
      clear hd
      go_wp2_with fail
      exact ⟨_, rfl, by with_reducible exact gbR _ _, by simp [tAt, isV]⟩
    · intro f w1 hG hd
      have hg4 := gbT (gbD (gbR wh none)) hG
      have k4 := gbk hg4 (ax0.out)
      have k5 := gbk hg4 (ax1.out)
      simp [deps, tAt, isV] at hd
      first | simp [puts, dsts, Act.put, hd] | simp [puts, dsts, Act.put]
      clear hd
      go_wp2_with fail
      exact ⟨_, rfl, by with_reducible exact gbR _ _, by simp [tAt, isV]⟩
    · intro f w1 hG hd
      have hg4 := gbT (gbD (gbR wh none)) hG
      simp [deps, tAt, isV] at hd
      first | simp [puts, dsts, Act.put, hd] | simp [puts, dsts, Act.put]
      clear hd
      go_wp2_with fail
      exact ⟨_, rfl, by with_reducible exact gbR _ _, by simp [tAt, isV]⟩
    · intro f w1 hG hd
      have hg4 := gbT (gbD (gbR wh none)) hG
      have k8 := gbk hg4 (tx0.out)
      have k9 := gbk hg4 (tx1.out)
      simp [deps, tAt, isV] at hd
      first | simp [puts, dsts, Act.put, hd] | simp [puts, dsts, Act.put]
      clear hd
      go_wp2_with fail
      exact ⟨_, rfl, by with_reducible exact gbR _ _, by simp [tAt, isV]⟩
    · intro f w1 hG hd
      have hg4 := gbT (gbD (gbR wh none)) hG
      simp [deps, tAt, isV] at hd
      first | simp [puts, dsts, Act.put, hd] | simp [puts, dsts, Act.put]
      clear hd
      go_wp2_with fail
      refine (specl28Minus_c k xa tx.a _ _ _ w1 (HK.out.grow hg4) (HXA.out.grow hg4) (HT.out.xa.grow hg4) WK.out WXA.out WX.out.1 HFL.out).mono ?_
      rintro e' w6 ⟨v6, rfl, o6, g6⟩
      have O6 := Lib.hid (autF.lo o6 hg4.size)
      have G6' := Lib.hid g6
      clear o6 g6
      go_wp2_with fail
      exact ⟨_, rfl, G6'.out, O6.out⟩
    · intro f w1 hG hd
      have hg4 := gbT (gbD (gbR wh none)) hG
      simp [deps, tAt, isV] at hd
      have e1 := hd.1
      have e2 := hd.2.1
      have h3 : autF wh.heap.size (minusA k xa tx.a) (f 114) w1 := by first | exact hd.2.2 | exact hd.2.2.1
      skip
      clear hd
      have e3 := autF.eq h3
      generalize s3A (agC 0 (f 114)) = P1 at e3
      generalize s3N (agC 0 (f 114)) = n1 at e3
      generalize s3C (agC 0 (f 114)) = c1 at e3
      generalize s3A (agC 1 (f 114)) = P2 at e3
      generalize s3N (agC 1 (f 114)) = n2 at e3
      generalize s3C (agC 1 (f 114)) = c2 at e3
      rw [e3] at h3
      have H3 := Lib.hid (autF.rd h3)
      clear h3
      simp [puts, dsts, Act.put, e1, e2, e3]
      clear e1 e2 e3
      go_wp2_with fail
      refine (specMacCheck_c k D1 (minusA k xa tx.a) _ _ w1 (HK.out.grow hg4) H3.out WK.out QQA.out).mono ?_
      rintro e' w6 ⟨rfl, hw⟩
      rw [M1.out]
      go_wp2_with fail
      exact ⟨_, rfl, hw, rfl⟩
    · intro f w1 hG hd
      have hg4 := gbT (gbD (gbR wh none)) hG
      simp [deps, tAt, isV] at hd
      first | simp [puts, dsts, Act.put, hd] | simp [puts, dsts, Act.put]
      clear hd
      go_wp2_with fail
      exact ⟨_, rfl, by with_reducible exact gbR _ _, by simp [tAt, isV]⟩
    · intro f w1 hG hd
      have hg4 := gbT (gbD (gbR wh none)) hG
      simp [deps, tAt, isV] at hd
      first | simp [puts, dsts, Act.put, hd] | simp [puts, dsts, Act.put]
      clear hd
      go_wp2_with fail
      exact ⟨_, rfl, by with_reducible exact gbR _ _, by simp [tAt, isV]⟩
    · intro f w1 hG hd
      have hg4 := gbT (gbD (gbR wh none)) hG
      simp [deps, tAt, isV] at hd
      first | simp [puts, dsts, Act.put, hd] | simp [puts, dsts, Act.put]
      clear hd
      go_wp2_with fail
      exact ⟨_, rfl, by with_reducible exact gbR _ _, by simp [tAt, isV]⟩
    · intro f w1 hG hd
      have hg4 := gbT (gbD (gbR wh none)) hG
      simp [deps, tAt, isV] at hd
      first | simp [puts, dsts, Act.put, hd] | simp [puts, dsts, Act.put]
      clear hd
      go_wp2_with fail
      exact ⟨_, rfl, by with_reducible exact gbR _ _, by simp [tAt, isV]⟩
    · intro f w1 hG hd
      have hg4 := gbT (gbD (gbR wh none)) hG
      simp [deps, tAt, isV] at hd
      first | simp [puts, dsts, Act.put, hd] | simp [puts, dsts, Act.put]
      clear hd
      go_wp2_with fail
      exact ⟨_, rfl, by with_reducible exact gbR _ _, by simp [tAt, isV]⟩
    · intro f w1 hG hd
      have hg4 := gbT (gbD (gbR wh none)) hG
      have k0 := gbk hg4 (kx0.out)
      have k1 := gbk hg4 (kx1.out)
      simp [deps, tAt, isV] at hd
      first | simp [puts, dsts, Act.put, hd] | simp [puts, dsts, Act.put]
      clear hd
      go_wp2_with fail
      exact ⟨_, rfl, by with_reducible exact gbR _ _, by simp [tAt, isV]⟩
    · intro f w1 hG hd
      have hg4 := gbT (gbD (gbR wh none)) hG
      simp [deps, tAt, isV] at hd
      first | simp [puts, dsts, Act.put, hd] | simp [puts, dsts, Act.put]
      clear hd
      go_wp2_with fail
      exact ⟨_, rfl, by with_reducible exact gbR _ _, by simp [tAt, isV]⟩
    · intro f w1 hG hd
      have hg4 := gbT (gbD (gbR wh none)) hG
      have k3 := gbk hg4 (ex0.out)
      simp [deps, tAt, isV] at hd
      first | simp [puts, dsts, Act.put, hd] | simp [puts, dsts, Act.put]
      clear hd
      go_wp2_with fail
      exact ⟨_, rfl, by with_reducible exact gbR _ _, by simp [tAt, isV]⟩
    · intro f w1 hG hd
      have hg4 := gbT (gbD (gbR wh none)) hG
      simp [deps, tAt, isV] at hd
      first | simp [puts, dsts, Act.put, hd] | simp [puts, dsts, Act.put]
      clear hd
      go_wp2_with fail
      exact ⟨_, rfl, by with_reducible exact gbR _ _, by simp [tAt, isV]⟩
    · intro f w1 hG hd
      have hg4 := gbT (gbD (gbR wh none)) hG
      simp [deps, tAt, isV] at hd
      first | simp [puts, dsts, Act.put, hd] | simp [puts, dsts, Act.put]
      clear hd
      go_wp2_with fail
      exact ⟨_, rfl, by with_reducible exact gbR _ _, by simp [tAt, isV]⟩
    · intro f w1 hG hd
      have hg4 := gbT (gbD (gbR wh none)) hG
      simp [deps, tAt, isV] at hd
      first | simp [puts, dsts, Act.put, hd] | simp [puts, dsts, Act.put]
      clear hd
      go_wp2_with fail
      exact ⟨_, rfl, by with_reducible exact gbR _ _, by simp [tAt, isV]⟩
    · intro f w1 hG hd
      have hg4 := gbT (gbD (gbR wh none)) hG
      have k0 := gbk hg4 (kx0.out)
      have k1 := gbk hg4 (kx1.out)
      simp [deps, tAt, isV] at hd
      first | simp [puts, dsts, Act.put, hd] | simp [puts, dsts, Act.put]
      clear hd
      go_wp2_with fail
      exact ⟨_, rfl, by with_reducible exact gbR _ _, by simp [tAt, isV]⟩
    · intro f w1 hG hd
      have hg4 := gbT (gbD (gbR wh none)) hG
      have k6 := gbk hg4 (bx0.out)
      have k7 := gbk hg4 (bx1.out)
      simp [deps, tAt, isV] at hd
      first | simp [puts, dsts, Act.put, hd] | simp [puts, dsts, Act.put]
      clear hd
      go_wp2_with fail
      exact ⟨_, rfl, by with_reducible exact gbR _ _, by simp [tAt, isV]⟩
    · intro f w1 hG hd
      have hg4 := gbT (gbD (gbR wh none)) hG
      simp [deps, tAt, isV] at hd
      first | simp [puts, dsts, Act.put, hd] | simp [puts, dsts, Act.put]
      clear hd
      go_wp2_with fail
      exact ⟨_, rfl, by with_reducible exact gbR _ _, by simp [tAt, isV]⟩
    · intro f w1 hG hd
      have hg4 := gbT (gbD (gbR wh none)) hG
      have k10 := gbk hg4 (tx2.out)
      have k11 := gbk hg4 (tx3.out)
      simp [deps, tAt, isV] at hd
      first | simp [puts, dsts, Act.put, hd] | simp [puts, dsts, Act.put]
      clear hd
      go_wp2_with fail
      exact ⟨_, rfl, by with_reducible exact gbR _ _, by simp [tAt, isV]⟩
    · intro f w1 hG hd
      have hg4 := gbT (gbD (gbR wh none)) hG
      simp [deps, tAt, isV] at hd
      first | simp [puts, dsts, Act.put, hd] | simp [puts, dsts, Act.put]
      clear hd
      go_wp2_with fail
      refine (specl28Minus_c k xb tx.b _ _ _ w1 (HK.out.grow hg4) (HXB.out.grow hg4) (HT.out.xb.grow hg4) WK.out WXB.out WX.out.2.1 HFL.out).mono ?_
      rintro e' w6 ⟨v6, rfl, o6, g6⟩
      have O6 := Lib.hid (autF.lo o6 hg4.size)
      have G6' := Lib.hid g6
      clear o6 g6
      go_wp2_with fail
      exact ⟨_, rfl, G6'.out, O6.out⟩
    · intro f w1 hG hd
      have hg4 := gbT (gbD (gbR wh none)) hG
      simp [deps, tAt, isV] at hd
      have e1 := hd.1
      have e2 := hd.2.1
      have h3 : autF wh.heap.size (minusA k xb tx.b) (f 131) w1 := by first | exact hd.2.2 | exact hd.2.2.1
      have e4 : f 117 = .bool false := by first | exact hd.2.2.2 | exact hd.2.2.2.1 | exact hd.2.2.2.2
      clear hd
      have e3 := autF.eq h3
      generalize s3A (agC 0 (f 131)) = P1 at e3
      generalize s3N (agC 0 (f 131)) = n1 at e3
      generalize s3C (agC 0 (f 131)) = c1 at e3
      generalize s3A (agC 1 (f 131)) = P2 at e3
      generalize s3N (agC 1 (f 131)) = n2 at e3
      generalize s3C (agC 1 (f 131)) = c2 at e3
      rw [e3] at h3
      have H3 := Lib.hid (autF.rd h3)
      clear h3
      simp [puts, dsts, Act.put, e1, e2, e3, e4]
      clear e1 e2 e3
      go_wp2_with fail
      refine (specMacCheck_c k E1 (minusA k xb tx.b) _ _ w1 (HK.out.grow hg4) H3.out WK.out QQB.out).mono ?_
      rintro e' w6 ⟨rfl, hw⟩
      rw [M2.out]
      go_wp2_with fail
      exact ⟨_, rfl, hw, rfl⟩
    · intro f w1 hG hd
      have hg4 := gbT (gbD (gbR wh none)) hG
      simp [deps, tAt, isV] at hd
      first | simp [puts, dsts, Act.put, hd] | simp [puts, dsts, Act.put]
      clear hd
      go_wp2_with fail
      exact ⟨_, rfl, by with_reducible exact gbR _ _, by simp [tAt, isV]⟩
    · intro f w1 hG hd
      have hg4 := gbT (gbD (gbR wh none)) hG
      simp [deps, tAt, isV] at hd
      first | simp [puts, dsts, Act.put, hd] | simp [puts, dsts, Act.put]
      clear hd
      go_wp2_with fail
      exact ⟨_, rfl, by with_reducible exact gbR _ _, by simp [tAt, isV]⟩
  intro f w5 hG hd
  simp [knows, tAt, isV] at hd
  obtain ⟨h0_, h1_, h2_, h3_, h4_, h5_, h6_, h7_, h8_, h9_, h10_, h11_, h12_, h13_, h14_, h15_, h16_, h17_, h18_, h19_, h20_, h21_, h22_, h23_, h24_, h25_, h26_, h27_, h28_, h29_, h30_, h31_, h32_, h33_⟩ := hd
  simp only [puts, dsts, Act.put, h0_, h1_, h2_, h3_, h4_, h5_, h6_, h7_, h8_, h9_, h10_, h11_, h12_, h13_, h14_, h15_, h16_, h17_, h18_, h19_, h20_, h21_, h22_, h23_, h24_, h25_, h26_, h27_, h28_, h29_, h30_, h31_, h32_, h33_, List.filterMap_cons, List.filterMap_nil, List.setIfInBounds_toArray, List.set_cons_zero, List.set_cons_succ]
  clear h0_ h1_ h2_ h3_ h4_ h5_ h6_ h7_ h8_ h9_ h10_ h11_ h12_ h13_ h14_ h15_ h16_ h17_ h18_ h19_ h20_ h21_ h22_ h23_ h24_ h25_ h26_ h27_ h28_ h29_ h30_ h31_ h32_ h33_
  have g5 := gbT (gbD (gbR wh none)) hG
  clear hG
  have HQ2 := HQ.out
  apply HQ2
  exact g5
end Go.Proofs.Ythaadgdeadbhkaa
