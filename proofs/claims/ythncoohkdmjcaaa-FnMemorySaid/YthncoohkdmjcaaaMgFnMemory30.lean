/-
  An access: the program's taking of all blocks of a path into the stash (the first loop).
-/
import Derived.Test.YthncoohkdmjcaaaMgFnMemory29
namespace Go.Proofs.Ythncoohkdmjcaaa
open Go.RowKit
set_option linter.unusedVariables false
set_option linter.unusedSimpArgs false
set_option maxHeartbeats 4000000 in
set_option maxRecDepth 1000000 in
theorem oaEvict (x0 : World) (H G : Nat) (m : OM) (gp cp : Nat) (old : Int) (w : World) (hH : x0.heap.size = H) (HN : m.sz ≤ 1048576) (HNB : m.bk.length = 15) (KL : (opath old).length = 4)
    (OC : OSE H G m w) (GC : x0.grownBy w none) (PO : PathO gp cp old w)
    (Q : Exit → Act → World → Prop) (s0 s1 s2 s3 s4 s5 s6 s7 s8 s9 s10 s11 s12 s13 s15 s16 s17 s18 s19 s20 s21 s22 s23 s24 s25 s26 s27 s28 s29 s30 s31 s32 s33 s34 s35 s36 s37 s38 s39 s40 s41 s42 s43 s44 s45 s46 s47 s48 s49 s50 s51 s52 s53 s57 s58 s59 s60 s61 s62 s63 s64 s65 s66 s67 s68 s69 s70 s71 s72 s73 s74 s75 s76 s77 s78 s79 s80 s81 s82 s83 s84 s85 s86 s87 s88 s89 s90 s91 s92 s93 s94 s95 s96 s97 s98 s99 s100 s101 s102 s103 s104 s105 s106 s107 s108 s109 s110 s111 s112 s113 s114 s115 s116 s117 s118 s119 s120 s121 s122 s123 s124 s125 s126 s127 s128 s129 s130 s131 s132 s133 s134 s135 s136 s137 s138 s139 s140 s141 s142 s143 s144 s145 s146 s147 s148 s149 s150 s151 s152 s153 s154 s155 s156 s157 s158 s159 s160 s161 s162 s163 s164 s165 s166 s167 s168 s169 s170 s171 s172 : Value)
    (hQ : ∀ (v17 v56 v57 v58 v59 v60 v61 v62 v63 v64 v65 v66 v67 v68 v69 v70 v71 v72 v73 : Value) (w' : World), OSE H G (evict m (opath old)) w' → x0.grownBy w' none →
      Q (.exit 0) (⟨List.toArray (s0 :: s1 :: s2 :: s3 :: s4 :: s5 :: s6 :: s7 :: s8 :: s9 :: s10 :: s11 :: s12 :: s13 :: (.pointer (some ⟨G, 0, none⟩)) :: s15 :: s16 :: v17 :: s18 :: s19 :: s20 :: s21 :: s22 :: s23 :: s24 :: s25 :: s26 :: s27 :: s28 :: s29 :: s30 :: s31 :: s32 :: s33 :: s34 :: s35 :: s36 :: s37 :: s38 :: s39 :: s40 :: s41 :: s42 :: s43 :: s44 :: s45 :: s46 :: s47 :: s48 :: s49 :: s50 :: s51 :: s52 :: s53 :: (.slice (some ⟨gp, 0, none⟩) 4 cp) :: (.int .i64 4) :: v56 :: v57 :: v58 :: v59 :: v60 :: v61 :: v62 :: v63 :: v64 :: v65 :: v66 :: v67 :: v68 :: v69 :: v70 :: v71 :: v72 :: v73 :: s74 :: s75 :: s76 :: s77 :: s78 :: s79 :: s80 :: s81 :: s82 :: s83 :: s84 :: s85 :: s86 :: s87 :: s88 :: s89 :: s90 :: s91 :: s92 :: s93 :: s94 :: s95 :: s96 :: s97 :: s98 :: s99 :: s100 :: s101 :: s102 :: s103 :: s104 :: s105 :: s106 :: s107 :: s108 :: s109 :: s110 :: s111 :: s112 :: s113 :: s114 :: s115 :: s116 :: s117 :: s118 :: s119 :: s120 :: s121 :: s122 :: s123 :: s124 :: s125 :: s126 :: s127 :: s128 :: s129 :: s130 :: s131 :: s132 :: s133 :: s134 :: s135 :: s136 :: s137 :: s138 :: s139 :: s140 :: s141 :: s142 :: s143 :: s144 :: s145 :: s146 :: s147 :: s148 :: s149 :: s150 :: s151 :: s152 :: s153 :: s154 :: s155 :: s156 :: s157 :: s158 :: s159 :: s160 :: s161 :: s162 :: s163 :: s164 :: s165 :: s166 :: s167 :: s168 :: s169 :: s170 :: s171 :: s172 :: []), []⟩ : Act) w') :
    Code.wp Try.prog (.loop (loopNo Try.f38 0)) Q (⟨List.toArray (s0 :: s1 :: s2 :: s3 :: s4 :: s5 :: s6 :: s7 :: s8 :: s9 :: s10 :: s11 :: s12 :: s13 :: (.pointer (some ⟨G, 0, none⟩)) :: s15 :: s16 :: s17 :: s18 :: s19 :: s20 :: s21 :: s22 :: s23 :: s24 :: s25 :: s26 :: s27 :: s28 :: s29 :: s30 :: s31 :: s32 :: s33 :: s34 :: s35 :: s36 :: s37 :: s38 :: s39 :: s40 :: s41 :: s42 :: s43 :: s44 :: s45 :: s46 :: s47 :: s48 :: s49 :: s50 :: s51 :: s52 :: s53 :: (.slice (some ⟨gp, 0, none⟩) 4 cp) :: (.int .i64 4) :: (.int .i64 0) :: s57 :: s58 :: s59 :: s60 :: s61 :: s62 :: s63 :: s64 :: s65 :: s66 :: s67 :: s68 :: s69 :: s70 :: s71 :: s72 :: s73 :: s74 :: s75 :: s76 :: s77 :: s78 :: s79 :: s80 :: s81 :: s82 :: s83 :: s84 :: s85 :: s86 :: s87 :: s88 :: s89 :: s90 :: s91 :: s92 :: s93 :: s94 :: s95 :: s96 :: s97 :: s98 :: s99 :: s100 :: s101 :: s102 :: s103 :: s104 :: s105 :: s106 :: s107 :: s108 :: s109 :: s110 :: s111 :: s112 :: s113 :: s114 :: s115 :: s116 :: s117 :: s118 :: s119 :: s120 :: s121 :: s122 :: s123 :: s124 :: s125 :: s126 :: s127 :: s128 :: s129 :: s130 :: s131 :: s132 :: s133 :: s134 :: s135 :: s136 :: s137 :: s138 :: s139 :: s140 :: s141 :: s142 :: s143 :: s144 :: s145 :: s146 :: s147 :: s148 :: s149 :: s150 :: s151 :: s152 :: s153 :: s154 :: s155 :: s156 :: s157 :: s158 :: s159 :: s160 :: s161 :: s162 :: s163 :: s164 :: s165 :: s166 :: s167 :: s168 :: s169 :: s170 :: s171 :: s172 :: []), []⟩ : Act) w := by
  conv => arg 2; arg 1; whnf
  have HQ := Lib.hid hQ
  have OC := Lib.hid OC
  have GC := Lib.hid GC
  have PO := Lib.hid PO
  have HN := Lib.hid HN
  have HNB := Lib.hid HNB
  have KS : ∀ k ∈ opath old, k < 15 := fun k hk => opath_lt hk
  clear hQ
  go_loopw [56] (fun i wr => ∃ j : Nat, j ≤ 4 ∧ i = .int .i64 j ∧ Hid (OSE H G (evict m ((opath old).take j)) wr) ∧ Hid (x0.grownBy wr none) ∧ Hid (PathO gp cp old wr)) (fun i _ => 4 - (intOf i).toNat)
  case atStart => exact ⟨0, Nat.zero_le _, rfl, OC, GC, PO⟩
  case round =>
    clear OC GC PO
    obtain ⟨j, hj, rfl, hO, hGr, hP⟩ := hrel
    by_cases hlt : j < 4
    · have i1 : (j : Int) < 4 := by omega
      obtain ⟨k, hk⟩ : ∃ k, (opath old)[j]? = some k := ⟨_, List.getElem?_eq_getElem (by omega)⟩
      have hk15 : k < 15 := KS k (List.mem_of_getElem? hk)
      have hnext := evict_next (m := m) hk
      have hle1 := evict_st_le (m := m) (ks := (opath old).take j) (fun y hy => by rw [HNB.out]; exact KS y (List.mem_of_mem_take hy))
      have hle2 := evict_st_le (m := m) (ks := (opath old).take (j + 1)) (fun y hy => by rw [HNB.out]; exact KS y (List.mem_of_mem_take hy))
      have hl15 := (evict_len ((opath old).take j) m).1
      rw [hnext] at hle2
      obtain ⟨mj, hmj⟩ : ∃ mj, evict m ((opath old).take j) = mj := ⟨_, rfl⟩
      rw [hmj] at hnext hle1 hle2 hl15 hO
      have HNX := Lib.hid hnext
      rw [HNB.out] at hl15
      obtain ⟨x, hx⟩ : ∃ x, mj.bk[k]? = some x := ⟨_, List.getElem?_eq_getElem (by omega)⟩
      have hxl : mj.st.length + x.length ≤ 1048576 := by
        have h1 := all_lenO m
        have h2 := HN.out
        unfold evict1 at hle2
        simp only [List.length_append, List.getD_eq_getElem?_getD, hx, Option.getD_some] at hle2
        omega
      obtain ⟨A0, n0, c0, A1, c1, A2, c2, F0, F1, F2, hOS⟩ := OSE.forms hO.out
      obtain rfl := hOS.nb
      rw [hl15] at hOS
      obtain ⟨g0, rfl, hg0⟩ := hOS.top (by omega)
      have HX := Lib.hid hx
      have HXL := Lib.hid hxl
      have HOS := Lib.hid hOS
      have p1 := hP.out.at_ hk
      clear hnext hle1 hle2 hx hxl hmj hO hOS
      go_wp2_with fail
      obtain ⟨uk, Fi, cu, fu, ou, su, gu, _, step⟩ := HOS.out.bucket HX.out
      obtain ⟨Ak, ck, rfl, _, _⟩ := plst_rd (s := 2) (fun _ => rfl) (by omega) (CS.toRd _ ou)
      have OU := Lib.hid ou
      have HF0 := CS.lt _ HOS.out.b
      have HF1 := CS.lt _ HOS.out.s
      have SF0 : ∀ y, (Value.slice A1 mj.st.length c1).ownBlock = some y → y ∉ F0 := fun y hy hy' => HOS.out.d01 y hy' (row_ob HOS.out.s hy)
      have SG : ∀ y, (Value.slice A1 mj.st.length c1).ownBlock = some y → y ≠ G := fun y hy e => HOS.out.n1 (by rw [← e]; exact row_ob HOS.out.s hy)
      refine region_chain [.rd (.pointer (some ⟨G, 1, none⟩)), .rd (.slice A1 mj.st.length c1), .rd (.pointer (some ⟨G, 0, none⟩)), .rd (.slice (some ⟨g0, 0, none⟩) 15 c0), .rd (.int .i64 k), .rd (.pointer (some ⟨g0, k, none⟩)), .rd (.slice Ak x.length ck), .ch, .rd (.pointer (some ⟨G, 1, none⟩)), .ch] (fun y => (Value.slice A1 mj.st.length c1).ownBlock = some y)
        [⟨[], fun _ w' => w' = wr.drew⟩,
         ⟨[67], fun l w' => Chg (fun y => (Value.slice A1 mj.st.length c1).ownBlock = some y) wr.drew w' ∧ ∃ F, (cblocks (mj.st ++ x)).own w' F (l.getD 0 undef) ∧ ∀ y ∈ F, y ∈ F1 ∨ wr.heap.size ≤ y⟩,
         ⟨[], fun _ w' => x0.grownBy w' none ∧ PathO gp cp old w' ∧ ∃ v F, OS H G { mj with st := mj.st ++ x } (.slice (some ⟨g0, 0, none⟩) 15 c0) v (.slice A2 mj.pos.length c2) F0 F F2 w'⟩]
        (by kernel_rfl) (by kernel_rfl) (by kernel_rfl) 2 (by kernel_rfl) (by simp only [flOk, and_true]) rfl rfl ?_ ?_
      · simp only [hopsK, hopK, Kd.next, and_true]
        have BB := HOS.out.blk.grow (gbD (gbR wr none))
        refine ⟨?_, ?_, ?_, ?_, ?_, ?_, ?_, ?_, ?_, ?_⟩
        · (intro f w4 hG hd; (try simp [depsC, dstAt, kAt, bindE, List.filter_cons, bd_data, bd_chain, bd_guard, bd_phase, bd_text, bd_gc] at hd); (first | simp [puts, dsts, Act.put, hd] | simp [puts, dsts, Act.put]); go_wp2_with fail; exact ⟨rfl, rfl⟩)
        · intro f w4 hG hd
          (try simp [depsC, dstAt, kAt, bindE, List.filter_cons, bd_data, bd_chain, bd_guard, bd_phase, bd_text, bd_gc] at hd)
          have B4 := BB.chg hG (fun e => SG _ e rfl)
          have b0 := B4.cell 1
          simp at b0
          (first | simp [puts, dsts, Act.put, hd] | simp [puts, dsts, Act.put])
          go_wp2_with fail
          exact ⟨rfl, rfl⟩
        · (intro f w4 hG hd; (try simp [depsC, dstAt, kAt, bindE, List.filter_cons, bd_data, bd_chain, bd_guard, bd_phase, bd_text, bd_gc] at hd); (first | simp [puts, dsts, Act.put, hd] | simp [puts, dsts, Act.put]); go_wp2_with fail; exact ⟨rfl, rfl⟩)
        · intro f w4 hG hd
          (try simp [depsC, dstAt, kAt, bindE, List.filter_cons, bd_data, bd_chain, bd_guard, bd_phase, bd_text, bd_gc] at hd)
          have B4 := BB.chg hG (fun e => SG _ e rfl)
          have b0 := B4.cell 0
          simp at b0
          (first | simp [puts, dsts, Act.put, hd] | simp [puts, dsts, Act.put])
          go_wp2_with fail
          exact ⟨rfl, rfl⟩
        · (intro f w4 hG hd; (try simp [depsC, dstAt, kAt, bindE, List.filter_cons, bd_data, bd_chain, bd_guard, bd_phase, bd_text, bd_gc] at hd); (first | simp [puts, dsts, Act.put, hd] | simp [puts, dsts, Act.put]); go_wp2_with fail; exact ⟨rfl, rfl⟩)
        · intro f w4 hG hd
          (try simp [depsC, dstAt, kAt, bindE, List.filter_cons, bd_data, bd_chain, bd_guard, bd_phase, bd_text, bd_gc] at hd)
          (first | simp [puts, dsts, Act.put, hd] | simp [puts, dsts, Act.put])
          go_wp2_with fail
          exact ⟨rfl, rfl⟩
        · intro f w4 hG hd
          (try simp [depsC, dstAt, kAt, bindE, List.filter_cons, bd_data, bd_chain, bd_guard, bd_phase, bd_text, bd_gc] at hd)
          have c4 : w4.cell? ⟨g0, k, none⟩ = some (.slice Ak x.length ck) := hG.cell (w := wr.drew) cu (HF0 g0 hg0) (fun e => SF0 _ e hg0)
          (first | simp [puts, dsts, Act.put, hd] | simp [puts, dsts, Act.put])
          go_wp2_with fail
          exact ⟨rfl, rfl⟩
        · intro f w4 hG hI hd
          have hI : w4 = wr.drew := hI
          subst hI
          (try simp [depsC, dstAt, kAt, bindE, List.filter_cons, bd_data, bd_chain, bd_guard, bd_phase, bd_text, bd_gc] at hd)
          (first | simp [puts, dsts, Act.put, hd] | simp [puts, dsts, Act.put])
          have e3 : wr.ownsRow 0 90 2 (.slice A1 mj.st.length c1) mj.st.length (mj.st.flatMap Go.Proofs.Ythncoohkdmjcaaa.c2) := by
            obtain ⟨_, _, _, _, e3⟩ := plst_row (s := 2) (fun _ => rfl) (by omega) HOS.out.s
            exact e3 0 (by simp)
          have RR := (plst_rd' (s := 2) (fun _ => rfl) (by omega) (CS.grow _ (CS.toRd _ OU.out) (gbD (gbR wr none)))).2.2.2.rd
          refine wp_appendT wr.drew elBlock rfl (.tmp 61) (.tmp 66) rfl 0 _ _ _ (own_grow e3 (gbD (gbR wr none))) rfl Ak x.length ck _ rfl RR (fun u hu => by obtain ⟨x, _, hx⟩ := List.mem_flatMap.1 hu; exact c2_one x u hx) (by have := HXL.out; unfold maxLen; omega) (by have := HXL.out; omega) (Nat.zero_le _) ?_
          intro v' w5 o8 g5 k5
          rw [← List.flatMap_append] at o8
          have o8' := plst_own (s := 2) (fun _ => rfl) (by omega) c2_one o8
          obtain ⟨B, n', s', rfl⟩ := row_form o8'
          go_wp2_with fail
          refine ⟨_, rfl, ⟨Chg.of g5 (fun g h => h), _, o8', fun y hy => ?_⟩, ⟨Chg.of g5 (fun g h => h), ?_⟩⟩
          · rcases k5 y (by simpa using hy) with h1 | h1
            · exact .inl (row_ob HOS.out.s h1.symm)
            · exact .inr h1
          · simp [keepsC]
        · (intro f w4 hG hd; (try simp [depsC, dstAt, kAt, bindE, List.filter_cons, bd_data, bd_chain, bd_guard, bd_phase, bd_text, bd_gc] at hd); (first | simp [puts, dsts, Act.put, hd] | simp [puts, dsts, Act.put]); go_wp2_with fail; exact ⟨rfl, rfl⟩)
        · intro f w6 hG hI hd
          obtain ⟨hch, F, o6, l6⟩ := hI
          have o6 : (cblocks (mj.st ++ x)).own w6 F (f 67) := o6
          obtain ⟨B, n', s', e67⟩ := row_form o6
          (try simp [depsC, dstAt, kAt, bindE, List.filter_cons, bd_data, bd_chain, bd_guard, bd_phase, bd_text, bd_gc] at hd)
          have B4 := BB.chg hch (fun e => SG _ e rfl)
          have b0 := B4.cell 1
          have f0 := B4.frozen 1
          simp at b0
          rw [e67] at o6
          simp [puts, dsts, Act.put, hd, e67]
          go_wp2_with fail
          have hF : ∀ y ∈ F, y ∉ F0 ∧ y ∉ F2 ∧ y ≠ G ∧ H ≤ y := fun y hy => by
            rcases l6 y hy with h3 | h3
            · exact ⟨fun h4 => HOS.out.d01 y h4 h3, HOS.out.d12 y h3, fun e => HOS.out.n1 (e ▸ h3), HOS.out.l1 y h3⟩
            · exact ⟨fun h4 => by have := HF0 y h4; omega, fun h4 => by have := CS.lt _ HOS.out.p y h4; omega, fun h4 => by have := HOS.out.blk.lt; omega, by have := HOS.out.lg; have := HOS.out.blk.lt; omega⟩
          have hch' := (Chg.of (gbD (gbR wr none)) (by simp)).trans hch
          have hOS := HOS.out.stash hch' o6 (fun y hy e => SF0 y e hy) (fun y hy e => HOS.out.d12 y (row_ob HOS.out.s e) hy) (fun e => SG _ e rfl) hF
          exact ⟨rfl, .bool false, gbS (gbChg hGr.out hch' (fun i hi => by rw [hH]; exact HOS.out.l1 i (row_ob HOS.out.s hi))) (by rw [hH]; exact HOS.out.lg) _, (hP.out.chg hch' (fun y hy => hP.out.ne_blocks HOS.out.s (row_ob HOS.out.s hy))).chg (chgS _ _ _ _) (fun y hy => by rw [hy]; exact hP.out.ne_blk HOS.out.blk (by decide)), _, _, hOS⟩
      · intro f w5 hI hd
        obtain ⟨hg5, hp5, v5, F5, hos5⟩ := hI
        obtain ⟨⟨_, _, _, _⟩, ⟨B5, d5, rfl, _⟩, _⟩ := hos5.forms
        obtain ⟨uk, Fi, cu, fu, ou, su, gu, _, step⟩ := hos5.bucket (i := k) (x := x) HX.out
        have h6 := step w5 [] (.slice none 0 0) [] (Chg.refl _ _) (cblocks_nil _) (by simp)
        obtain ⟨F', h7, h8⟩ := h6
        have hev : ({ mj with st := mj.st ++ x, bk := mj.bk.set k [] } : OM) = evict m ((opath old).take (j + 1)) := by
          rw [HNX.out]
          unfold evict1
          rw [List.getD_eq_getElem?_getD, HX.out]
          rfl
        rw [hev] at h7
        have O7 := Lib.hid (show OSE H G (evict m ((opath old).take (j + 1))) _ from ⟨_, _, _, _, _, _, h7⟩)
        have hch := chgS w5 g0 k (.slice none 0 0)
        have G7 := Lib.hid (gbChg hg5 hch (fun i hi => by rw [hi, hH]; exact hos5.l0 g0 hg0))
        obtain ⟨nt, vt, ht⟩ := row_topo hos5.b
        have P7 := Lib.hid (hp5.chg hch (fun y hy => by rw [hy]; exact hp5.ne_row ht (by decide) rfl))
        have b0 := hos5.blk.cell 0
        simp at b0
        clear hd hg5 hp5 hos5 step h7 h8 hev hch ht
        simp only [puts, dsts, Act.put, List.filterMap_cons, List.filterMap_nil, List.setIfInBounds_toArray, List.set_cons_zero, List.set_cons_succ]
        go_wp2_with fail
        go_roundw
        case rel => exact ⟨j + 1, by omega, by go_num, O7, G7, P7⟩
        case measure => simp [intOf]; omega
    · have hj4 : j = 4 := by omega
      subst hj4
      rw [List.take_of_length_le (by omega)] at hO
      go_wp2_with fail
      exact HQ.out _ _ _ _ _ _ _ _ _ _ _ _ _ _ _ _ _ _ _ _ hO.out hGr.out
end Go.Proofs.Ythncoohkdmjcaaa
