/-
  An access: the program's filling of one bucket (its inner loop).
-/
import Derived.Test.YthncoohkdmjcaaaMgFnMemory29
namespace Go.Proofs.Ythncoohkdmjcaaa
open Go.RowKit
set_option linter.unusedVariables false
set_option linter.unusedSimpArgs false
set_option maxHeartbeats 4000000 in
set_option maxRecDepth 1000000 in
theorem oaInner (x0 : World) (H G : Nat) (mj : OM) (k N g0 gq cq c0 c1 c2 : Nat) (A1 A2 : Option Addr) (F1 F2 : List Nat) (old : Int) (L0 : Value) (w : World) (hH : x0.heap.size = H) (hk15 : k < 15) (okj : M3 mj) (hN : mj.st.length = N)
    (hl15 : mj.bk.length = 15) (hN1 : N ≤ 1048577)
    (LJ0 : LJ H G { mj with bk := mj.bk.set k (fS mj k 0).1 } (.slice (some ⟨g0, 0, none⟩) 15 c0) (.slice A1 N c1) (.slice A2 12 c2) F1 F2 (fS mj k 0).2 L0 w) (G4 : x0.grownBy w none) (P4 : PathO gq cq old w)
    (Q : Exit → Act → World → Prop) (s0 s1 s2 s3 s4 s5 s6 s7 s8 s9 s10 s11 s12 s13 s15 s16 s17 s18 s19 s20 s21 s22 s25 s26 s27 s28 s29 s30 s31 s32 s33 s34 s35 s36 s37 s38 s39 s40 s41 s42 s43 s44 s45 s46 s47 s48 s49 s50 s51 s52 s53 s54 s55 s56 s57 s58 s59 s60 s61 s62 s63 s64 s65 s66 s67 s68 s69 s70 s71 s72 s73 s74 s75 s76 s77 s78 s79 s80 s81 s82 s83 s84 s85 s86 s87 s88 s89 s90 s91 s92 s93 s94 s95 s96 s97 s98 s99 s100 s101 s102 s103 s104 s105 s106 s107 s108 s109 s110 s111 s112 s113 s114 s115 s116 s117 s118 s119 s120 s121 s122 s123 s124 s125 s126 s130 s131 s132 s133 s134 s135 s136 s137 s138 s139 s140 s141 s142 s143 s144 s145 s146 s147 s148 s149 s150 s151 s152 s153 s154 s155 s156 s157 s158 s159 s160 s161 s162 s163 s164 s165 s166 s167 s168 s169 s170 s171 s172 : Value)
    (hQ : ∀ (v24 v26 v129 v130 v131 v132 v133 v134 v135 v136 v137 v138 v139 v140 v141 v142 v143 v144 v145 v146 v147 v148 v149 v150 v151 v152 v153 v154 v155 v156 v157 v158 v159 v160 v161 v162 v163 v164 v165 v166 : Value) (w' : World), LJ H G { mj with bk := mj.bk.set k (fS mj k N).1 } (.slice (some ⟨g0, 0, none⟩) 15 c0) (.slice A1 N c1) (.slice A2 12 c2) F1 F2 (fS mj k N).2 v24 w' → x0.grownBy w' none → PathO gq cq old w' →
      Q (.exit 6) (⟨List.toArray (s0 :: s1 :: s2 :: s3 :: s4 :: s5 :: s6 :: s7 :: s8 :: s9 :: s10 :: s11 :: s12 :: s13 :: (.pointer (some ⟨G, 0, none⟩)) :: s15 :: s16 :: s17 :: s18 :: s19 :: s20 :: s21 :: s22 :: (.int .i64 k) :: v24 :: s25 :: v26 :: s27 :: s28 :: s29 :: s30 :: s31 :: s32 :: s33 :: s34 :: s35 :: s36 :: s37 :: s38 :: s39 :: s40 :: s41 :: s42 :: s43 :: s44 :: s45 :: s46 :: s47 :: s48 :: s49 :: s50 :: s51 :: s52 :: s53 :: s54 :: s55 :: s56 :: s57 :: s58 :: s59 :: s60 :: s61 :: s62 :: s63 :: s64 :: s65 :: s66 :: s67 :: s68 :: s69 :: s70 :: s71 :: s72 :: s73 :: s74 :: s75 :: s76 :: s77 :: s78 :: s79 :: s80 :: s81 :: s82 :: s83 :: s84 :: s85 :: s86 :: s87 :: s88 :: s89 :: s90 :: s91 :: s92 :: s93 :: s94 :: s95 :: s96 :: s97 :: s98 :: s99 :: s100 :: s101 :: s102 :: s103 :: s104 :: s105 :: s106 :: s107 :: s108 :: s109 :: s110 :: s111 :: s112 :: s113 :: s114 :: s115 :: s116 :: s117 :: s118 :: s119 :: s120 :: s121 :: s122 :: s123 :: s124 :: s125 :: s126 :: (.slice A1 N c1) :: (.int .i64 N) :: v129 :: v130 :: v131 :: v132 :: v133 :: v134 :: v135 :: v136 :: v137 :: v138 :: v139 :: v140 :: v141 :: v142 :: v143 :: v144 :: v145 :: v146 :: v147 :: v148 :: v149 :: v150 :: v151 :: v152 :: v153 :: v154 :: v155 :: v156 :: v157 :: v158 :: v159 :: v160 :: v161 :: v162 :: v163 :: v164 :: v165 :: v166 :: s167 :: s168 :: s169 :: s170 :: s171 :: s172 :: []), []⟩ : Act) w') :
    Code.wp Try.prog (.loop (loopNo Try.f38 3)) Q (⟨List.toArray (s0 :: s1 :: s2 :: s3 :: s4 :: s5 :: s6 :: s7 :: s8 :: s9 :: s10 :: s11 :: s12 :: s13 :: (.pointer (some ⟨G, 0, none⟩)) :: s15 :: s16 :: s17 :: s18 :: s19 :: s20 :: s21 :: s22 :: (.int .i64 k) :: L0 :: s25 :: s26 :: s27 :: s28 :: s29 :: s30 :: s31 :: s32 :: s33 :: s34 :: s35 :: s36 :: s37 :: s38 :: s39 :: s40 :: s41 :: s42 :: s43 :: s44 :: s45 :: s46 :: s47 :: s48 :: s49 :: s50 :: s51 :: s52 :: s53 :: s54 :: s55 :: s56 :: s57 :: s58 :: s59 :: s60 :: s61 :: s62 :: s63 :: s64 :: s65 :: s66 :: s67 :: s68 :: s69 :: s70 :: s71 :: s72 :: s73 :: s74 :: s75 :: s76 :: s77 :: s78 :: s79 :: s80 :: s81 :: s82 :: s83 :: s84 :: s85 :: s86 :: s87 :: s88 :: s89 :: s90 :: s91 :: s92 :: s93 :: s94 :: s95 :: s96 :: s97 :: s98 :: s99 :: s100 :: s101 :: s102 :: s103 :: s104 :: s105 :: s106 :: s107 :: s108 :: s109 :: s110 :: s111 :: s112 :: s113 :: s114 :: s115 :: s116 :: s117 :: s118 :: s119 :: s120 :: s121 :: s122 :: s123 :: s124 :: s125 :: s126 :: (.slice A1 N c1) :: (.int .i64 N) :: (.int .i64 0) :: s130 :: s131 :: s132 :: s133 :: s134 :: s135 :: s136 :: s137 :: s138 :: s139 :: s140 :: s141 :: s142 :: s143 :: s144 :: s145 :: s146 :: s147 :: s148 :: s149 :: s150 :: s151 :: s152 :: s153 :: s154 :: s155 :: s156 :: s157 :: s158 :: s159 :: s160 :: s161 :: s162 :: s163 :: s164 :: s165 :: s166 :: s167 :: s168 :: s169 :: s170 :: s171 :: s172 :: []), []⟩ : Act) w := by
  conv => arg 2; arg 1; whnf
  have HQ := Lib.hid hQ
  have OKJ := Lib.hid okj
  have HNl := Lib.hid hN
  have LJ0 := Lib.hid LJ0
  have G4 := Lib.hid G4
  have P4 := Lib.hid P4
  clear hQ okj hN
  go_loopw [129, 24] (fun q L wr => ∃ p : Nat, p ≤ N ∧ q = .int .i64 p ∧ Hid (LJ H G { mj with bk := mj.bk.set k (fS mj k p).1 } (.slice (some ⟨g0, 0, none⟩) 15 c0) (.slice A1 N c1) (.slice A2 12 c2) F1 F2 (fS mj k p).2 L wr) ∧ Hid (x0.grownBy wr none) ∧ Hid (PathO gq cq old wr)) (fun q _ _ => N - (intOf q).toNat)
  case atStart => exact ⟨0, Nat.zero_le _, rfl, LJ0, G4, P4⟩
  case round =>
    clear LJ0 G4 P4
    obtain ⟨p, hp, rfl, hL, hGr, hP⟩ := hrel
    by_cases hlt2 : p < N
    · have i2 : (p : Int) < (N : Int) := by omega
      obtain ⟨⟨bi, bv⟩, hb⟩ : ∃ b, mj.st[p]? = some b := ⟨_, List.getElem?_eq_getElem (by rw [HNl.out]; exact hlt2)⟩
      obtain ⟨d0, d1⟩ := OKJ.out.ids (bi, bv) (List.mem_append_right _ (List.mem_of_getElem? hb))
      simp only at d0 d1
      obtain ⟨ib, rfl⟩ := Int.eq_ofNat_of_zero_le d0
      have d2 : (ib : Int) < 12 := by omega
      have hle := OKJ.out.fS_le k p
      have hyes := fS_yes hb (k := k)
      have hno := fS_no hb (k := k)
      obtain ⟨x, hx⟩ : ∃ x, (fS mj k p).1 = x := ⟨_, rfl⟩
      obtain ⟨l, hl⟩ : ∃ l, (fS mj k p).2 = l := ⟨_, rfl⟩
      rw [hx, hl] at hL hle hyes hno
      obtain ⟨z, hz⟩ : ∃ z, mj.leaf (ib : Int) = z := ⟨_, rfl⟩
      simp only [hz] at hyes hno
      obtain ⟨F0', hOS⟩ := hL.out.os
      obtain ⟨g1, rfl, hg1, k0, k1, _, _⟩ := hOS.val hb
      obtain ⟨g2, rfl, hg2, kp, fp, _⟩ := hOS.posAt (OKJ.out.leafAt (i := ib) d1)
      rw [hz] at kp
      have hkb : ({ mj with bk := mj.bk.set k x } : OM).bk[k]? = some x := by
        show (mj.bk.set k x)[k]? = some x
        rw [List.getElem?_set_self (by omega)]
      obtain ⟨uk, Fi, cu, fu, ou, hg0i, hg0l, hg0o, hg0G, hFi, step⟩ := hL.out.bucket hkb
      obtain ⟨Ak, ck, rfl, eFi, oRow⟩ := cblocks_form ou
      have b0 := hOS.blk.cell 0
      have b2 := hOS.blk.cell 2
      simp at b0 b2
      have b0a := fun o => kA b0 o
      have b2a := fun o => kA b2 o
      have cua := fun o => kA cu o
      have kpa := fun o => kA kp o
      obtain ⟨AL, cL, rfl, oL⟩ := hL.out.row
      have OL := Lib.hid oL
      have hSub : ∀ y, (Value.slice Ak x.length ck).ownBlock = some y → y ∈ Fi := fun y hy => row_ob ou hy
      have STP := Lib.hid step
      have OU := Lib.hid ou
      have HYES := Lib.hid hyes
      have HNO := Lib.hid hno
      have HOS := Lib.hid hOS
      have OROW := Lib.hid oRow
      have HFI := Lib.hid hFi
      have HSUB := Lib.hid hSub
      have HG0I := Lib.hid hg0i
      have HG0G := Lib.hid hg0G
      have HG0L := Lib.hid hg0l
      have NB := Lib.hid (Blk.new wr 90 #[.int .i64 ib, .int .i64 bv])
      clear oL step ou hyes hno hOS oRow hFi hSub hg0i hg0G hg0l eFi hkb fp hx hl hz hg1 hg2
      by_cases hx2 : x.length < 2
      · have i3 : (x.length : Int) < 2 := by omega
        go_wp2_with fail
        refine (iHolds_c k z _).mono ?_
        rintro e w5 ⟨rfl, g5⟩
        have GG := Lib.hid (gbT (gbA (gbR wr none) (.cells #[.int .i64 ib, .int .i64 bv] 90)) g5)
        have NB5 := Lib.hid (NB.out.grow g5)
        clear g5
        by_cases hzk : k ∈ opath z
        · rw [show decide (k ∈ opath z) = true by simpa using hzk]
          go_wp2_with fail
          have HB := Lib.hid HOS.out.blk
          have B5 := Lib.hid (HOS.out.blk.grow (gbT GG.out (gbD (gbR w5 none))))
          have SG : ∀ y, (Value.slice Ak x.length ck).ownBlock = some y → y ≠ G := fun y hy => (HFI.out y (HSUB.out y hy)).2
          have S0 : ∀ y, (Value.slice Ak x.length ck).ownBlock = some y → y ≠ g0 := fun y hy e => HG0I.out (by rw [← e]; exact HSUB.out y hy)
          have CU := Lib.hid (gbk (gbT GG.out (gbD (gbR w5 none))) cu)
          have FU := Lib.hid ((gbFrozen (gbT GG.out (gbD (gbR w5 none))) (p := ⟨g0, k, none⟩) HG0L.out (by simp)).trans fu)
          have LT0 := Lib.hid (show g0 < w5.drew.heap.size by have := HG0I.out; have := GG.out.size; have := HG0L.out; simp; omega)
          have Z5 := Lib.hid GG.out.size
          have LTS : ∀ y, (Value.slice Ak x.length ck).ownBlock = some y → y < wr.heap.size := fun y hy => CS.lt _ OU.out y (HSUB.out y hy)
          have ROW5 := Lib.hid (own_grow OROW.out (gbT GG.out (gbD (gbR w5 none))))
          have NB6 := Lib.hid (NB5.out.grow (gbD (gbR w5 none)))
          clear b0a b2a cua kpa b0 b2 cu kp k0 k1
          refine region_chain [.rd (.pointer (some ⟨G, 0, none⟩)), .rd (.slice (some ⟨g0, 0, none⟩) 15 c0), .rd (.int .i64 k), .rd (.pointer (some ⟨G, 0, none⟩)), .rd (.slice (some ⟨g0, 0, none⟩) 15 c0), .rd (.int .i64 k), .rd (.pointer (some ⟨g0, k, none⟩)), .rd (.slice Ak x.length ck), .rd (.agg #[.int .i64 ib, .int .i64 bv]), .fl (lit1N w5.heap.size 90 #[.int .i64 ib, .int .i64 bv]), .ch, .rd (.pointer (some ⟨g0, k, none⟩)), .ch] (fun y => (Value.slice Ak x.length ck).ownBlock = some y)
            [⟨[], fun _ w' => w5.drew.grownBy w' none⟩,
             ⟨[160], fun l w' => Chg (fun y => (Value.slice Ak x.length ck).ownBlock = some y) w5.drew w' ∧ ∃ F, (cblocks (x ++ [((ib : Int), bv)])).own w' F (l.getD 0 undef) ∧ ∀ y ∈ F, y ∈ Fi ∨ w5.heap.size ≤ y⟩,
             ⟨[], fun _ w' => x0.grownBy w' none ∧ PathO gq cq old w' ∧ LJ H G { mj with bk := mj.bk.set k (x ++ [((ib : Int), bv)]) } (.slice (some ⟨g0, 0, none⟩) 15 c0) (.slice (some ⟨g1, 0, none⟩) N c1) (.slice (some ⟨g2, 0, none⟩) 12 c2) F1 F2 l (.slice AL l.length cL) w'⟩]
            (by kernel_rfl) (by kernel_rfl) (by kernel_rfl) 2 (by kernel_rfl) ?_ (gbR _ _) rfl ?_ ?_
          · simp only [flOk, true_and, and_true]
            refine ⟨lit1N_st, stF_cons (fun l w1 w2 h hg => gbT h hg) (stF_cons ?_ (stF_cons ?_ stF_nil))⟩
            · rintro l w1 w2 ⟨a1, F, a2, a3⟩ hg
              exact ⟨a1.trans (Chg.of hg (by simp)), F, own_growK _ a2 hg, a3⟩
            · rintro l w1 w2 ⟨a1, a2, a3⟩ hg
              exact ⟨gbT a1 hg, a2.grow hg, a3.grow hg⟩
          · simp only [hopsK, hopK, Kd.next, and_true]
            refine ⟨?_, ?_, ?_, ?_, ?_, ?_, ?_, ?_, ?_, ?_, ?_, ?_, ?_⟩
            · (intro f w4 hG hd; (try simp [depsC, dstAt, kAt, bindE, List.filter_cons, bd_data, bd_chain, bd_guard, bd_phase, bd_text, bd_gc] at hd); (first | simp [puts, dsts, Act.put, hd] | simp [puts, dsts, Act.put]); go_wp2_with fail; exact ⟨rfl, rfl⟩)
            · intro f w4 hG hd
              (try simp [depsC, dstAt, kAt, bindE, List.filter_cons, bd_data, bd_chain, bd_guard, bd_phase, bd_text, bd_gc] at hd)
              have B4 := B5.out.chg hG (fun e => SG _ e rfl)
              have b0 := B4.cell 0
              simp at b0
              (first | simp [puts, dsts, Act.put, hd] | simp [puts, dsts, Act.put])
              go_wp2_with fail
              exact ⟨rfl, rfl⟩
            · (intro f w4 hG hd; (try simp [depsC, dstAt, kAt, bindE, List.filter_cons, bd_data, bd_chain, bd_guard, bd_phase, bd_text, bd_gc] at hd); (first | simp [puts, dsts, Act.put, hd] | simp [puts, dsts, Act.put]); go_wp2_with fail; exact ⟨rfl, rfl⟩)
            · (intro f w4 hG hd; (try simp [depsC, dstAt, kAt, bindE, List.filter_cons, bd_data, bd_chain, bd_guard, bd_phase, bd_text, bd_gc] at hd); (first | simp [puts, dsts, Act.put, hd] | simp [puts, dsts, Act.put]); go_wp2_with fail; exact ⟨rfl, rfl⟩)
            · intro f w4 hG hd
              (try simp [depsC, dstAt, kAt, bindE, List.filter_cons, bd_data, bd_chain, bd_guard, bd_phase, bd_text, bd_gc] at hd)
              have B4 := B5.out.chg hG (fun e => SG _ e rfl)
              have b0 := B4.cell 0
              simp at b0
              (first | simp [puts, dsts, Act.put, hd] | simp [puts, dsts, Act.put])
              go_wp2_with fail
              exact ⟨rfl, rfl⟩
            · (intro f w4 hG hd; (try simp [depsC, dstAt, kAt, bindE, List.filter_cons, bd_data, bd_chain, bd_guard, bd_phase, bd_text, bd_gc] at hd); (first | simp [puts, dsts, Act.put, hd] | simp [puts, dsts, Act.put]); go_wp2_with fail; exact ⟨rfl, rfl⟩)
            · intro f w4 hG hd
              (try simp [depsC, dstAt, kAt, bindE, List.filter_cons, bd_data, bd_chain, bd_guard, bd_phase, bd_text, bd_gc] at hd)
              (first | simp [puts, dsts, Act.put, hd] | simp [puts, dsts, Act.put])
              go_wp2_with fail
              exact ⟨rfl, rfl⟩
            · intro f w4 hG hd
              (try simp [depsC, dstAt, kAt, bindE, List.filter_cons, bd_data, bd_chain, bd_guard, bd_phase, bd_text, bd_gc] at hd)
              have c4 : w4.cell? ⟨g0, k, none⟩ = some (.slice Ak x.length ck) := hG.cell CU.out LT0.out (fun e => S0 _ e rfl)
              (first | simp [puts, dsts, Act.put, hd] | simp [puts, dsts, Act.put])
              go_wp2_with fail
              exact ⟨rfl, rfl⟩
            · intro f w4 hG hd
              clear hd
              have N4 := NB6.out.chg hG (fun e => by have := LTS _ e; omega)
              have n0 := N4.cell 0
              have n1 := N4.cell 1
              simp at n0 n1
              simp [puts, dsts, Act.put]
              go_wp2_with fail
              exact ⟨rfl, rfl⟩
            · intro f w4 hG hd
              (try simp [depsC, dstAt, kAt, bindE, List.filter_cons, bd_data, bd_chain, bd_guard, bd_phase, bd_text, bd_gc] at hd)
              (first | simp [puts, dsts, Act.put, hd] | simp [puts, dsts, Act.put])
              go_wp2_with fail
              exact ⟨_, rfl, ⟨_, rfl, by have := hG.size; simp at this; omega, Blk.new w4 _ _⟩, gbA (gbR _ _) _⟩
            · intro f w4 hG hI hd
              have hI : w5.drew.grownBy w4 none := hI
              (try simp [depsC, dstAt, kAt, bindE, List.filter_cons, bd_data, bd_chain, bd_guard, bd_phase, bd_text, bd_gc] at hd)
              obtain ⟨e157, g9, e159, hg9, B9⟩ := hd
              simp [puts, dsts, Act.put, e157, e159]
              have n0 := B9.cell 0
              have n1 := B9.cell 1
              simp at n0 n1
              refine wp_appendA w4 elBlock rfl (.tmp 157) (.tmp 159) rfl 0 _ _ _ (own_grow ROW5.out hI) rfl ⟨g9, 0, none⟩ 1 1 [.int .i64 ib, .int .i64 bv] rfl rfl ?_ (by simp [Value.oneCell']) (by unfold maxLen; omega) (by omega) (Nat.zero_le _) ?_
              · intro j u hu
                have hadd : (⟨g9, 0, none⟩ : Addr).add j = ⟨g9, j, none⟩ := by unfold Addr.add; split <;> simp_all
                rw [hadd]
                match j, hu with
                | 0, hu => simp at hu; rw [n0, hu]
                | 1, hu => simp at hu; rw [n1, hu]
                | j + 2, hu => simp at hu
              intro v' w6 o8 g8 k8
              have o8' := cblocks_push (w := wr) (b := ((ib : Int), bv)) o8
              obtain ⟨A9, c9, hv9, e9, _⟩ := cblocks_form o8'
              rw [show (x ++ [((ib : Int), bv)]).length = x.length + 1 by simp] at hv9
              subst hv9
              go_wp2_with fail
              refine ⟨_, rfl, ⟨(Chg.of hI (by simp)).trans (Chg.of g8 fun g h => h), _, o8', fun y hy => ?_⟩, ⟨Chg.of g8 (fun g h => h), ?_⟩⟩
              · rcases k8 y (by simpa using hy) with h1 | h1
                · exact .inl (HSUB.out y h1.symm)
                · exact .inr (by have := hI.size; simp at this; omega)
              · simp [keepsC, dstAt]
                intro h
                obtain ⟨g', e1, h1, h2⟩ := h
                refine ⟨g', e1, h1, h2.grown g8 (fun e => ?_)⟩
                have := LTS g' e.symm
                have := Z5.out
                omega
            · intro f w4 hG hd
              (try simp [depsC, dstAt, kAt, bindE, List.filter_cons, bd_data, bd_chain, bd_guard, bd_phase, bd_text, bd_gc] at hd)
              (first | simp [puts, dsts, Act.put, hd] | simp [puts, dsts, Act.put])
              go_wp2_with fail
              exact ⟨rfl, rfl⟩
            · intro f w6 hG hI hd
              obtain ⟨hch, F, o6, l6⟩ := hI
              have o6 : (cblocks (x ++ [((ib : Int), bv)])).own w6 F (f 160) := o6
              obtain ⟨B, n', s', e160⟩ := row_form o6
              (try simp [depsC, dstAt, kAt, bindE, List.filter_cons, bd_data, bd_chain, bd_guard, bd_phase, bd_text, bd_gc] at hd)
              rw [e160] at o6
              have c6 : w6.cell? ⟨g0, k, none⟩ = some (.slice Ak x.length ck) := hch.cell CU.out LT0.out (fun e => S0 _ e rfl)
              simp [puts, dsts, Act.put, hd, e160]
              have f6 : w6.frozen? ⟨g0, k, none⟩ = false := hch.frozen FU.out LT0.out (fun e => S0 _ e rfl)
              have hchr : Chg (fun y => y ∈ Fi) wr w6 := ((Chg.of (gbT GG.out (gbD (gbR w5 none))) (by simp)).trans hch).mono (fun y hy => HSUB.out y hy)
              have h7 := STP.out w6 _ _ F hchr o6 (fun y hy => by
                rcases l6 y hy with h3 | h3
                · exact .inl h3
                · exact .inr (by have := Z5.out; omega))
              rw [show ({ mj with bk := (mj.bk.set k x).set k (x ++ [((ib : Int), bv)]) } : OM) = { mj with bk := mj.bk.set k (x ++ [((ib : Int), bv)]) } by rw [List.set_set]] at h7
              have G7 := gbChg (gbChg hGr.out hchr (fun y hy => by have := (HFI.out y hy).1; omega)) (chgS w6 g0 k (.slice B n' s')) (fun y hy => by rw [hy]; have := hg0o; omega)
              have P7 := (hP.out.chg hchr (fun y hy => hP.out.ne_blocks OU.out hy)).chg (chgS w6 g0 k (.slice B n' s')) (fun y hy => by rw [hy]; exact hL.out.path0 hP.out)
              go_wp2_with fail
              exact ⟨rfl, .bool false, G7, P7, h7⟩
          · intro f w6 hI hd
            obtain ⟨G7, P7, L7⟩ := hI
            simp [knowsC, dstAt] at hd
            have L7 : Hid (LJ H G { mj with bk := mj.bk.set k (fS mj k (p + 1)).1 } (.slice (some ⟨g0, 0, none⟩) 15 c0) (.slice (some ⟨g1, 0, none⟩) N c1) (.slice (some ⟨g2, 0, none⟩) 12 c2) F1 F2 (fS mj k (p + 1)).2 (.slice AL l.length cL) w6) := by rw [HYES.out hx2 hzk]; exact Lib.hid L7
            have G7 := Lib.hid G7
            have P7 := Lib.hid P7
            clear hd
            simp only [puts, dsts, Act.put, List.filterMap_cons, List.filterMap_nil, List.setIfInBounds_toArray, List.set_cons_zero, List.set_cons_succ]
            go_wp2_with fail
            go_roundw
            case rel => exact ⟨p + 1, by omega, by go_num, L7, G7, P7⟩
            case measure => simp [intOf]; omega
        · rw [show decide (k ∈ opath z) = false by simpa using hzk]
          have hNot : ¬ (x.length < 2 ∧ k ∈ opath z) := fun h => hzk h.2
          clear b0a b2a cua kpa b0 b2 cu kp
          have nb0 := NB5.out.cell 0
          have nb1 := NB5.out.cell 1
          simp at nb0 nb1
          have OW := Lib.hid (own_grow OL.out GG.out)
          go_wp2_with (at_builtin; (refine wp_appendG w5 w5.heap.size rfl elBlock rfl (.tmp 162) (.tmp 164) rfl #[.int .i64 ib, .int .i64 bv] rfl (by simp [Value.oneCell']) 0 _ _ _ OW.out rfl rfl (by unfold maxLen; omega) (by omega) (Nat.zero_le _) ?_); intro v' w6 o7 g7 k7)
          have o7' := cblocks_push (w := wr) (b := ((ib : Int), bv)) o7
          obtain ⟨A9, c9, rfl, e9, _⟩ := cblocks_form o7'
          have hch : Chg (fun y => (Value.slice AL l.length cL).ownBlock = some y) wr w6 := (Chg.of (gbA GG.out _) (by simp)).trans (Chg.of g7 fun g h => h)
          have h7 := hL.out.left hch o7' (fun y hy => by
            rcases k7 y (by simpa using hy) with h3 | h3
            · exact .inl h3.symm
            · exact .inr (by have := GG.out.size; omega))
          have L7 : Hid (LJ H G { mj with bk := mj.bk.set k (fS mj k (p + 1)).1 } (.slice (some ⟨g0, 0, none⟩) 15 c0) (.slice (some ⟨g1, 0, none⟩) N c1) (.slice (some ⟨g2, 0, none⟩) 12 c2) F1 F2 (fS mj k (p + 1)).2 (.slice A9 (l ++ [((ib : Int), bv)]).length c9) w6) := by rw [HNO.out hNot]; exact Lib.hid h7
          have G7 := Lib.hid (gbChg hGr.out hch (fun y hy => by have := (hL.out.lt hy).1; omega))
          have P7 := Lib.hid (hP.out.chg hch (fun y hy => hL.out.pathL hP.out hy))
          clear h7 hch o7' e9 k7 g7

          go_wp2_with fail
          go_roundw
          case rel => exact ⟨p + 1, by omega, by go_num, L7, G7, P7⟩
          case measure => simp [intOf]; omega
      · have i3 : ¬ (x.length : Int) < 2 := by omega
        have hNot : ¬ (x.length < 2 ∧ k ∈ opath z) := fun h => hx2 h.1
        have OW := Lib.hid (own_grow OL.out (gbA (gbR wr none) (.cells #[.int .i64 ib, .int .i64 bv] 90)))
        go_wp2_with (at_builtin; (refine wp_appendG (wr.alloc (.cells #[.int .i64 ib, .int .i64 bv] 90)) (wr.heap.size + 1) (by simp) elBlock rfl (.tmp 162) (.tmp 164) rfl #[.int .i64 ib, .int .i64 bv] rfl (by simp [Value.oneCell']) 0 _ _ _ OW.out rfl rfl (by unfold maxLen; omega) (by omega) (Nat.zero_le _) ?_); intro v' w6 o7 g7 k7)
        have o7' := cblocks_push (w := wr) (b := ((ib : Int), bv)) o7
        obtain ⟨A9, c9, rfl, e9, _⟩ := cblocks_form o7'
        have hch : Chg (fun y => (Value.slice AL l.length cL).ownBlock = some y) wr w6 := (Chg.of (gbA (gbA (gbR wr none) (.cells #[.int .i64 ib, .int .i64 bv] 90)) _) (by simp)).trans (Chg.of g7 fun g h => h)
        have h7 := hL.out.left hch o7' (fun y hy => by
          rcases k7 y (by simpa using hy) with h3 | h3
          · exact .inl h3.symm
          · exact .inr (by simp at h3; omega))
        have L7 : Hid (LJ H G { mj with bk := mj.bk.set k (fS mj k (p + 1)).1 } (.slice (some ⟨g0, 0, none⟩) 15 c0) (.slice (some ⟨g1, 0, none⟩) N c1) (.slice (some ⟨g2, 0, none⟩) 12 c2) F1 F2 (fS mj k (p + 1)).2 (.slice A9 (l ++ [((ib : Int), bv)]).length c9) w6) := by rw [HNO.out hNot]; exact Lib.hid h7
        have G7 := Lib.hid (gbChg hGr.out hch (fun y hy => by have := (hL.out.lt hy).1; omega))
        have P7 := Lib.hid (hP.out.chg hch (fun y hy => hL.out.pathL hP.out hy))
        clear h7 hch o7' e9 k7 g7

        go_wp2_with fail
        go_roundw
        case rel => exact ⟨p + 1, by omega, by go_num, L7, G7, P7⟩
        case measure => simp [intOf]; omega
    · have hpN : p = N := by omega
      subst hpN
      go_wp2_with fail
      exact HQ.out _ _ _ _ _ _ _ _ _ _ _ _ _ _ _ _ _ _ _ _ _ _ _ _ _ _ _ _ _ _ _ _ _ _ _ _ _ _ _ _ _ hL.out hGr.out hP.out
end Go.Proofs.Ythncoohkdmjcaaa
