/-
  An access: the program's filling of all buckets of a path (the outer loop).
-/
import Derived.Test.YthncoohkdmjcaaaMgFnMemory31
import Derived.Test.YthncoohkdmjcaaaMgFnMemory29
namespace Go.Proofs.Ythncoohkdmjcaaa
open Go.RowKit
set_option linter.unusedVariables false
set_option linter.unusedSimpArgs false
set_option maxHeartbeats 4000000 in
set_option maxRecDepth 1000000 in
theorem oaFill (x0 : World) (H G : Nat) (m3 : OM) (gq cq : Nat) (old : Int) (w : World) (hH : x0.heap.size = H) (ok3 : M3 m3) (KL : (opath old).length = 4)
    (OC : OSE H G m3 w) (GC : x0.grownBy w none) (PQ : PathO gq cq old w)
    (Q : Exit → Act → World → Prop) (s0 s1 s2 s3 s4 s5 s6 s7 s8 s9 s10 s11 s12 s13 s15 s16 s17 s18 s19 s20 s21 s22 s23 s24 s25 s26 s27 s28 s29 s30 s31 s32 s33 s34 s35 s36 s37 s38 s39 s40 s41 s42 s43 s44 s45 s46 s47 s48 s49 s50 s51 s52 s53 s54 s55 s56 s57 s58 s59 s60 s61 s62 s63 s64 s65 s66 s67 s68 s69 s70 s71 s72 s73 s74 s75 s76 s77 s78 s79 s80 s81 s82 s83 s84 s85 s86 s87 s88 s89 s90 s91 s92 s93 s94 s95 s96 s97 s98 s99 s100 s101 s102 s103 s104 s105 s106 s107 s108 s109 s110 s111 s112 s113 s114 s115 s116 s117 s118 s122 s123 s124 s125 s126 s127 s128 s129 s130 s131 s132 s133 s134 s135 s136 s137 s138 s139 s140 s141 s142 s143 s144 s145 s146 s147 s148 s149 s150 s151 s152 s153 s154 s155 s156 s157 s158 s159 s160 s161 s162 s163 s164 s165 s166 s167 s168 s169 s170 s171 s172 : Value)
    (hQ : ∀ (v23 v24 v26 v121 v122 v123 v124 v125 v126 v127 v128 v129 v130 v131 v132 v133 v134 v135 v136 v137 v138 v139 v140 v141 v142 v143 v144 v145 v146 v147 v148 v149 v150 v151 v152 v153 v154 v155 v156 v157 v158 v159 v160 v161 v162 v163 v164 v165 v166 v167 v168 v169 : Value) (w' : World), OSE H G (fill m3 (opath old)) w' → x0.grownBy w' none →
      Q (.exit 4) (⟨List.toArray (s0 :: s1 :: s2 :: s3 :: s4 :: s5 :: s6 :: s7 :: s8 :: s9 :: s10 :: s11 :: s12 :: s13 :: (.pointer (some ⟨G, 0, none⟩)) :: s15 :: s16 :: s17 :: s18 :: s19 :: s20 :: s21 :: s22 :: v23 :: v24 :: s25 :: v26 :: s27 :: s28 :: s29 :: s30 :: s31 :: s32 :: s33 :: s34 :: s35 :: s36 :: s37 :: s38 :: s39 :: s40 :: s41 :: s42 :: s43 :: s44 :: s45 :: s46 :: s47 :: s48 :: s49 :: s50 :: s51 :: s52 :: s53 :: s54 :: s55 :: s56 :: s57 :: s58 :: s59 :: s60 :: s61 :: s62 :: s63 :: s64 :: s65 :: s66 :: s67 :: s68 :: s69 :: s70 :: s71 :: s72 :: s73 :: s74 :: s75 :: s76 :: s77 :: s78 :: s79 :: s80 :: s81 :: s82 :: s83 :: s84 :: s85 :: s86 :: s87 :: s88 :: s89 :: s90 :: s91 :: s92 :: s93 :: s94 :: s95 :: s96 :: s97 :: s98 :: s99 :: s100 :: s101 :: s102 :: s103 :: s104 :: s105 :: s106 :: s107 :: s108 :: s109 :: s110 :: s111 :: s112 :: s113 :: s114 :: s115 :: s116 :: s117 :: s118 :: (.slice (some ⟨gq, 0, none⟩) 4 cq) :: (.int .i64 4) :: v121 :: v122 :: v123 :: v124 :: v125 :: v126 :: v127 :: v128 :: v129 :: v130 :: v131 :: v132 :: v133 :: v134 :: v135 :: v136 :: v137 :: v138 :: v139 :: v140 :: v141 :: v142 :: v143 :: v144 :: v145 :: v146 :: v147 :: v148 :: v149 :: v150 :: v151 :: v152 :: v153 :: v154 :: v155 :: v156 :: v157 :: v158 :: v159 :: v160 :: v161 :: v162 :: v163 :: v164 :: v165 :: v166 :: v167 :: v168 :: v169 :: s170 :: s171 :: s172 :: []), []⟩ : Act) w') :
    Code.wp Try.prog (.loop (loopNo Try.f38 2)) Q (⟨List.toArray (s0 :: s1 :: s2 :: s3 :: s4 :: s5 :: s6 :: s7 :: s8 :: s9 :: s10 :: s11 :: s12 :: s13 :: (.pointer (some ⟨G, 0, none⟩)) :: s15 :: s16 :: s17 :: s18 :: s19 :: s20 :: s21 :: s22 :: s23 :: s24 :: s25 :: s26 :: s27 :: s28 :: s29 :: s30 :: s31 :: s32 :: s33 :: s34 :: s35 :: s36 :: s37 :: s38 :: s39 :: s40 :: s41 :: s42 :: s43 :: s44 :: s45 :: s46 :: s47 :: s48 :: s49 :: s50 :: s51 :: s52 :: s53 :: s54 :: s55 :: s56 :: s57 :: s58 :: s59 :: s60 :: s61 :: s62 :: s63 :: s64 :: s65 :: s66 :: s67 :: s68 :: s69 :: s70 :: s71 :: s72 :: s73 :: s74 :: s75 :: s76 :: s77 :: s78 :: s79 :: s80 :: s81 :: s82 :: s83 :: s84 :: s85 :: s86 :: s87 :: s88 :: s89 :: s90 :: s91 :: s92 :: s93 :: s94 :: s95 :: s96 :: s97 :: s98 :: s99 :: s100 :: s101 :: s102 :: s103 :: s104 :: s105 :: s106 :: s107 :: s108 :: s109 :: s110 :: s111 :: s112 :: s113 :: s114 :: s115 :: s116 :: s117 :: s118 :: (.slice (some ⟨gq, 0, none⟩) 4 cq) :: (.int .i64 4) :: (.int .i64 0) :: s122 :: s123 :: s124 :: s125 :: s126 :: s127 :: s128 :: s129 :: s130 :: s131 :: s132 :: s133 :: s134 :: s135 :: s136 :: s137 :: s138 :: s139 :: s140 :: s141 :: s142 :: s143 :: s144 :: s145 :: s146 :: s147 :: s148 :: s149 :: s150 :: s151 :: s152 :: s153 :: s154 :: s155 :: s156 :: s157 :: s158 :: s159 :: s160 :: s161 :: s162 :: s163 :: s164 :: s165 :: s166 :: s167 :: s168 :: s169 :: s170 :: s171 :: s172 :: []), []⟩ : Act) w := by
  conv => arg 2; arg 1; whnf
  have HQ := Lib.hid hQ
  have ok3 := Lib.hid ok3
  have OC := Lib.hid OC
  have GC := Lib.hid GC
  have PQ := Lib.hid PQ
  have KS : ∀ k ∈ opath old, k < 15 := fun k hk => opath_lt hk
  clear hQ
  go_loopw [121] (fun i wr => ∃ j : Nat, j ≤ 4 ∧ i = .int .i64 j ∧ Hid (OSE H G (fill m3 ((opath old).take j)) wr) ∧ Hid (x0.grownBy wr none) ∧ Hid (PathO gq cq old wr)) (fun i _ => 4 - (intOf i).toNat)
  case atStart => exact ⟨0, Nat.zero_le _, rfl, OC, GC, PQ⟩
  case round =>
    clear OC GC PQ
    obtain ⟨j, hj, rfl, hO, hGr, hP⟩ := hrel
    by_cases hlt : j < 4
    · have i1 : (j : Int) < 4 := by omega
      obtain ⟨k, hk⟩ : ∃ k, (opath old)[j]? = some k := ⟨_, List.getElem?_eq_getElem (by omega)⟩
      have hk15 : k < 15 := KS k (List.mem_of_getElem? hk)
      have hnext := fill_next (m := m3) hk
      have okj := M3.fill ok3.out (ks := (opath old).take j) (fun y hy => KS y (List.mem_of_mem_take hy))
      obtain ⟨mj, hmj⟩ : ∃ mj, fill m3 ((opath old).take j) = mj := ⟨_, rfl⟩
      rw [hmj] at hnext okj hO
      have HNX := Lib.hid hnext
      have OKJ := Lib.hid okj
      have hl15 := okj.nb
      have hN1 := okj.st
      obtain ⟨N, hN⟩ : ∃ N, mj.st.length = N := ⟨_, rfl⟩
      obtain ⟨A0, n0, c0, A1, c1, A2, c2, F0, F1, F2, hOS⟩ := OSE.forms hO.out
      obtain rfl := hOS.nb
      rw [hl15, hN, okj.np] at hOS
      rw [hN] at hN1
      obtain ⟨g0, rfl, hg0⟩ := hOS.top (by omega)
      have p1 := hP.out.at_ hk
      have b1 := hOS.blk.cell 1
      simp at b1
      have b1a := fun o => kA b1 o
      have LJ0 := Lib.hid (LJ.start (k := k) hOS)
      have HNl := Lib.hid hN
      clear hnext okj hmj hO hOS hN
      go_wp2_with fail
      obtain ⟨gl, hgl⟩ : ∃ gl, wr.heap.size = gl := ⟨_, rfl⟩
      obtain ⟨wo, hwo⟩ : ∃ wo : World, wr.alloc (.cells #[] 90) = wo := ⟨_, rfl⟩
      have G4 := Lib.hid (gbA hGr.out (.cells #[] 90))
      have P4 := Lib.hid (hP.out.grow (gbA (gbR wr none) (.cells #[] 90)))
      rw [hwo] at LJ0 G4 P4 ⊢
      rw [hgl] at LJ0 ⊢
      clear hwo hgl hGr hP p1 b1 b1a
      refine oaInner x0 H G mj k N g0 gq cq c0 c1 c2 A1 A2 F1 F2 old _ wo hH hk15 OKJ.out HNl.out hl15 hN1 LJ0.out G4.out P4.out _ _ _ _ _ _ _ _ _ _ _ _ _ _ _ _ _ _ _ _ _ _ _ _ _ _ _ _ _ _ _ _ _ _ _ _ _ _ _ _ _ _ _ _ _ _ _ _ _ _ _ _ _ _ _ _ _ _ _ _ _ _ _ _ _ _ _ _ _ _ _ _ _ _ _ _ _ _ _ _ _ _ _ _ _ _ _ _ _ _ _ _ _ _ _ _ _ _ _ _ _ _ _ _ _ _ _ _ _ _ _ _ _ _ _ _ _ _ _ _ _ _ _ _ _ _ _ _ _ _ _ _ _ _ _ _ _ _ _ _ _ _ _ _ _ _ _ _ _ _ _ _ _ _ _ _ _ _ _ _ _ _ _ _ _ _ _ _ ?_
      intro v24 v26 v129 v130 v131 v132 v133 v134 v135 v136 v137 v138 v139 v140 v141 v142 v143 v144 v145 v146 v147 v148 v149 v150 v151 v152 v153 v154 v155 v156 v157 v158 v159 v160 v161 v162 v163 v164 v165 v166 wr hL hGr hP
      have hL := Lib.hid hL
      have hGr := Lib.hid hGr
      have hP := Lib.hid hP
      obtain ⟨p, rfl⟩ : ∃ p, N = p := ⟨_, rfl⟩
      clear LJ0 G4 P4
      obtain ⟨AL, cL, rfl, oL⟩ := hL.out.row
      have h7 := hL.out.done
      have e7 : ({ mj with bk := mj.bk.set k (fS mj k N).1, st := (fS mj k N).2 } : OM) = fill m3 ((opath old).take (j + 1)) := by rw [HNX.out]; exact fS_end HNl.out.symm
      have O7 := Lib.hid (show OSE H G (fill m3 ((opath old).take (j + 1))) _ by rw [← e7]; exact h7)
      obtain ⟨F0', hOS⟩ := hL.out.os
      have G7 := Lib.hid (gbChg hGr.out (chgS wr G 1 (.slice AL (fS mj k N).2.length cL)) (fun y hy => by rw [hy, hH]; exact hOS.lg))
      have P7 := Lib.hid (hP.out.chg (chgS wr G 1 (.slice AL (fS mj k N).2.length cL)) (fun y hy => by rw [hy]; exact hL.out.pathG hP.out))
      have b1 := hOS.blk.cell 1
      have f1 := hOS.blk.frozen 1
      simp at b1
      clear hOS h7 e7 oL
      go_wp2_with fail
      go_roundw
      case rel => exact ⟨j + 1, by omega, by go_num, O7, G7, P7⟩
      case measure => simp [intOf]; omega
    · have hj4 : j = 4 := by omega
      subst hj4
      rw [List.take_of_length_le (by omega)] at hO
      go_wp2_with fail
      exact HQ.out _ _ _ _ _ _ _ _ _ _ _ _ _ _ _ _ _ _ _ _ _ _ _ _ _ _ _ _ _ _ _ _ _ _ _ _ _ _ _ _ _ _ _ _ _ _ _ _ _ _ _ _ _ hO.out hGr.out
end Go.Proofs.Ythncoohkdmjcaaa
/-
  An access: the program's search of the stash (the second loop).
-/
namespace Go.Proofs.Ythncoohkdmjcaaa
open Go.RowKit
set_option linter.unusedVariables false
set_option linter.unusedSimpArgs false
set_option maxHeartbeats 4000000 in
set_option maxRecDepth 1000000 in
theorem oaFind (x0 : World) (H G : Nat) (m1 : OM) (i n : Nat) (value : Int) (write : Bool) (A1 : Option Addr) (c1 : Nat) (w : World) (hH : x0.heap.size = H) (ND : (m1.st.map (·.1)).Nodup) (HNl : m1.st.length = n) (hst : n ≤ 1048576)
    (OC : OSE H G m1 w) (GC : x0.grownBy w none)
    (Q : Exit → Act → World → Prop) (s0 s4 s5 s6 s7 s8 s9 s10 s11 s12 s13 s15 s16 s17 s20 s21 s22 s23 s24 s25 s26 s27 s28 s29 s30 s31 s32 s33 s34 s35 s36 s37 s38 s39 s40 s41 s42 s43 s44 s45 s46 s47 s48 s49 s50 s51 s52 s53 s54 s55 s56 s57 s58 s59 s60 s61 s62 s63 s64 s65 s66 s67 s68 s69 s70 s71 s72 s73 s74 s78 s79 s80 s81 s82 s83 s84 s85 s86 s87 s88 s89 s90 s91 s92 s93 s94 s95 s96 s97 s98 s99 s100 s101 s102 s103 s104 s105 s106 s107 s108 s109 s110 s111 s112 s113 s114 s115 s116 s117 s118 s119 s120 s121 s122 s123 s124 s125 s126 s127 s128 s129 s130 s131 s132 s133 s134 s135 s136 s137 s138 s139 s140 s141 s142 s143 s144 s145 s146 s147 s148 s149 s150 s151 s152 s153 s154 s155 s156 s157 s158 s159 s160 s161 s162 s163 s164 s165 s166 s167 s168 s169 s170 s171 s172 : Value)
    (hQ : ∀ (v20 v21 v77 v78 v79 v80 v81 v82 v83 v84 v85 v86 v87 v88 v89 v90 v91 v92 v93 v94 v95 v96 v97 v98 v99 : Value) (w' : World), OSE H G { m1 with st := if write then m1.st.map (pv (i : Int) value) else m1.st } w' → x0.grownBy w' none →
      Q (.exit 2) (⟨List.toArray (s0 :: (.int .i64 i) :: (.bool write) :: (.int .i64 value) :: s4 :: s5 :: s6 :: s7 :: s8 :: s9 :: s10 :: s11 :: s12 :: s13 :: (.pointer (some ⟨G, 0, none⟩)) :: s15 :: s16 :: s17 :: (.int .i64 (bval m1.st (i : Int))) :: (.bool (bhas m1.st (i : Int))) :: v20 :: v21 :: s22 :: s23 :: s24 :: s25 :: s26 :: s27 :: s28 :: s29 :: s30 :: s31 :: s32 :: s33 :: s34 :: s35 :: s36 :: s37 :: s38 :: s39 :: s40 :: s41 :: s42 :: s43 :: s44 :: s45 :: s46 :: s47 :: s48 :: s49 :: s50 :: s51 :: s52 :: s53 :: s54 :: s55 :: s56 :: s57 :: s58 :: s59 :: s60 :: s61 :: s62 :: s63 :: s64 :: s65 :: s66 :: s67 :: s68 :: s69 :: s70 :: s71 :: s72 :: s73 :: s74 :: (.slice A1 n c1) :: (.int .i64 n) :: v77 :: v78 :: v79 :: v80 :: v81 :: v82 :: v83 :: v84 :: v85 :: v86 :: v87 :: v88 :: v89 :: v90 :: v91 :: v92 :: v93 :: v94 :: v95 :: v96 :: v97 :: v98 :: v99 :: s100 :: s101 :: s102 :: s103 :: s104 :: s105 :: s106 :: s107 :: s108 :: s109 :: s110 :: s111 :: s112 :: s113 :: s114 :: s115 :: s116 :: s117 :: s118 :: s119 :: s120 :: s121 :: s122 :: s123 :: s124 :: s125 :: s126 :: s127 :: s128 :: s129 :: s130 :: s131 :: s132 :: s133 :: s134 :: s135 :: s136 :: s137 :: s138 :: s139 :: s140 :: s141 :: s142 :: s143 :: s144 :: s145 :: s146 :: s147 :: s148 :: s149 :: s150 :: s151 :: s152 :: s153 :: s154 :: s155 :: s156 :: s157 :: s158 :: s159 :: s160 :: s161 :: s162 :: s163 :: s164 :: s165 :: s166 :: s167 :: s168 :: s169 :: s170 :: s171 :: s172 :: []), []⟩ : Act) w') :
    Code.wp Try.prog (.loop (loopNo Try.f38 1)) Q (⟨List.toArray (s0 :: (.int .i64 i) :: (.bool write) :: (.int .i64 value) :: s4 :: s5 :: s6 :: s7 :: s8 :: s9 :: s10 :: s11 :: s12 :: s13 :: (.pointer (some ⟨G, 0, none⟩)) :: s15 :: s16 :: s17 :: (.int .i64 0) :: (.bool false) :: s20 :: s21 :: s22 :: s23 :: s24 :: s25 :: s26 :: s27 :: s28 :: s29 :: s30 :: s31 :: s32 :: s33 :: s34 :: s35 :: s36 :: s37 :: s38 :: s39 :: s40 :: s41 :: s42 :: s43 :: s44 :: s45 :: s46 :: s47 :: s48 :: s49 :: s50 :: s51 :: s52 :: s53 :: s54 :: s55 :: s56 :: s57 :: s58 :: s59 :: s60 :: s61 :: s62 :: s63 :: s64 :: s65 :: s66 :: s67 :: s68 :: s69 :: s70 :: s71 :: s72 :: s73 :: s74 :: (.slice A1 n c1) :: (.int .i64 n) :: (.int .i64 0) :: s78 :: s79 :: s80 :: s81 :: s82 :: s83 :: s84 :: s85 :: s86 :: s87 :: s88 :: s89 :: s90 :: s91 :: s92 :: s93 :: s94 :: s95 :: s96 :: s97 :: s98 :: s99 :: s100 :: s101 :: s102 :: s103 :: s104 :: s105 :: s106 :: s107 :: s108 :: s109 :: s110 :: s111 :: s112 :: s113 :: s114 :: s115 :: s116 :: s117 :: s118 :: s119 :: s120 :: s121 :: s122 :: s123 :: s124 :: s125 :: s126 :: s127 :: s128 :: s129 :: s130 :: s131 :: s132 :: s133 :: s134 :: s135 :: s136 :: s137 :: s138 :: s139 :: s140 :: s141 :: s142 :: s143 :: s144 :: s145 :: s146 :: s147 :: s148 :: s149 :: s150 :: s151 :: s152 :: s153 :: s154 :: s155 :: s156 :: s157 :: s158 :: s159 :: s160 :: s161 :: s162 :: s163 :: s164 :: s165 :: s166 :: s167 :: s168 :: s169 :: s170 :: s171 :: s172 :: []), []⟩ : Act) w := by
  conv => arg 2; arg 1; whnf
  have HQ := Lib.hid hQ
  have OC := Lib.hid OC
  have GC := Lib.hid GC
  have ND := Lib.hid ND
  have HNl := Lib.hid HNl
  clear hQ
  go_loopw [77, 18, 19] (fun q r f wr => ∃ j : Nat, j ≤ n ∧ q = .int .i64 j ∧ r = .int .i64 (bval (m1.st.take j) (i : Int)) ∧ f = .bool (bhas (m1.st.take j) (i : Int)) ∧ Hid (OSE H G { m1 with st := stJ write m1.st (i : Int) value j } wr) ∧ Hid (x0.grownBy wr none)) (fun q _ _ _ => n - (intOf q).toNat)
  case atStart => exact ⟨0, Nat.zero_le _, rfl, rfl, rfl, by rw [stJ_zero]; exact OC, GC⟩
  case round =>
    clear OC GC
    obtain ⟨j, hj, rfl, rfl, rfl, hO, hGr⟩ := hrel
    by_cases hlt : j < n
    · have i1 : (j : Int) < (n : Int) := by omega
      obtain ⟨⟨bi, bv⟩, hb⟩ : ∃ b, m1.st[j]? = some b := ⟨_, List.getElem?_eq_getElem (by rw [HNl.out]; exact hlt)⟩
      have hgj := stJ_get (write := write) (id := (i : Int)) (v := value) hb
      have hlj := stJ_len (write := write) (l := m1.st) (id := (i : Int)) (v := value) (j := j)
      obtain ⟨A0, n0, c0, A1, c1, A2, c2, F0, F1, F2, hOS⟩ := OSE.forms hO.out
      have hOS' := hOS
      rw [show (stJ write m1.st (i : Int) value j).length = n by rw [hlj]; exact HNl.out] at hOS
      obtain ⟨g1, rfl, hg1, k0, k1, kf, step⟩ := hOS.val hgj
      have b1 := hOS.blk.cell 1
      simp at b1
      have HB1 := Lib.hid hb
      have hvt := bval_take ND.out hb (id := (i : Int))
      have hht := bhas_take hb (id := (i : Int))
      by_cases e : bi = (i : Int)
      · subst e
        simp only [if_true] at hvt
        simp at hht
        have HV := Lib.hid hvt
        have HH := Lib.hid hht
        cases write with
        | false =>
          clear step hOS hOS' hgj hlj hvt hht hb
          go_wp2_with fail
          go_roundw
          case rel => exact ⟨j + 1, by omega, by go_num, by rw [HV.out], by rw [HH.out], hO, hGr⟩
          case measure => simp [intOf]; omega
        | true =>
          have hs := step value
          have hn := stJ_next (id := (i : Int)) (v := value) hb
          rw [show pv (i : Int) value ((i : Int), bv) = ((i : Int), value) by simp [pv]] at hn
          simp only at hs
          rw [← hn] at hs
          have O7 := Lib.hid (show OSE H G { m1 with st := stJ true m1.st (i : Int) value (j + 1) } _ from ⟨_, _, _, _, _, _, hs⟩)
          have G7 := Lib.hid (gbChg hGr.out (chgS wr g1 (j * 2 + 1) (.int .i64 value)) (fun y hy => by rw [hy, hH]; exact hOS.l1 g1 hg1))
          clear step hOS hOS' hgj hlj hvt hht hb hs hn
          go_wp2_with fail
          go_roundw
          case rel => exact ⟨j + 1, by omega, by go_num, by rw [HV.out], by rw [HH.out], O7, G7⟩
          case measure => simp [intOf]; omega
      · rw [if_neg (by simpa using e)] at hvt
        have hf : (bi == (i : Int)) = false := by simpa using e
        simp only [hf, Bool.or_false] at hht
        have hn := stJ_ne (write := write) (id := (i : Int)) (v := value) hb e
        have HV := Lib.hid hvt
        have HH := Lib.hid hht
        have HNn := Lib.hid hn
        clear step hOS hOS' hgj hlj hvt hht hb hn hf
        go_wp2_with fail
        go_roundw
        case rel => exact ⟨j + 1, by omega, by go_num, by rw [HV.out], by rw [HH.out], by rw [HNn.out]; exact hO, hGr⟩
        case measure => simp [intOf]; omega
    · have hjn : j = n := by omega
      subst hjn
      rw [bval_full HNl.out.symm, bhas_full HNl.out.symm]
      rw [stJ_end HNl.out.symm] at hO
      go_wp2_with fail
      exact HQ.out _ _ _ _ _ _ _ _ _ _ _ _ _ _ _ _ _ _ _ _ _ _ _ _ _ _ hO.out hGr.out
end Go.Proofs.Ythncoohkdmjcaaa
