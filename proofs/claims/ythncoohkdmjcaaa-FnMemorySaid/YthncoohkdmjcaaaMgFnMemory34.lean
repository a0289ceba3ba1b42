/-
  An access: the reference's taking of all blocks of a path into the stash (the first loop).
-/
import Derived.Test.YthncoohkdmjcaaaMgFnMemory29
namespace Go.Proofs.Ythncoohkdmjcaaa
open Go.RowKit
set_option linter.unusedVariables false
set_option linter.unusedSimpArgs false
/-- The struct's block and what its parts own, the leaves' row known. -/
def OSP (lo g : Nat) (m : OM) (u2 : Value) (F2 : List Nat) (w : World) : Prop := ∃ u0 u1 F0 F1, OS lo g m u0 u1 u2 F0 F1 F2 w
theorem OSP.forms {lo g : Nat} {m : OM} {u2 : Value} {F2 : List Nat} {w : World} (h : OSP lo g m u2 F2 w) : ∃ A0 n0 c0 A1 c1 F0 F1, OS lo g m (.slice A0 n0 c0) (.slice A1 m.st.length c1) u2 F0 F1 F2 w := by
  obtain ⟨u0, u1, F0, F1, h⟩ := h
  obtain ⟨⟨A0, n0, c0, rfl⟩, ⟨A1, c1, rfl, _⟩, _⟩ := h.forms
  exact ⟨_, _, _, _, _, _, _, h⟩
theorem OSP.grow {lo g : Nat} {m : OM} {u2 : Value} {F2 : List Nat} {w w' : World} (h : OSP lo g m u2 F2 w) (k : w.grownBy w' none) : OSP lo g m u2 F2 w' := by
  obtain ⟨u0, u1, F0, F1, h⟩ := h
  exact ⟨u0, u1, F0, F1, h.grow k⟩
set_option maxHeartbeats 4000000 in
set_option maxRecDepth 1000000 in
theorem saEvict (x0 : World) (H G : Nat) (m : OM) (gp cp : Nat) (old : Int) (A2 : Option Addr) (n2 c2 : Nat) (F2 : List Nat) (w : World) (hH : x0.heap.size = H) (HN : m.sz ≤ 1048576) (HNB : m.bk.length = 15) (KL : (opath old).length = 4)
    (OC : OSP H G m (.slice A2 n2 c2) F2 w) (GC : x0.grownBy w none) (PO : PathO gp cp old w)
    (Q : Exit → Act → World → Prop) (s0 s1 s2 s3 s4 s5 s6 s7 s8 s9 s10 s11 s12 s13 s15 s18 s19 s20 s21 s22 s23 s24 s25 s26 s27 s28 s29 s30 s31 s32 s33 s34 s35 s36 s37 s38 s39 s40 s41 s42 s43 s44 s45 s46 s47 s48 s49 s50 s51 s52 s53 s54 s55 s56 s57 s58 s59 s60 s61 s62 s63 s64 s65 s66 s67 s68 s69 s70 s71 s72 s73 s74 s75 s76 s77 s78 s79 s80 s81 s82 s83 s84 s85 s86 s87 s88 s89 s90 s91 s92 s93 s94 s95 s96 s97 s98 s99 s100 s101 s102 s103 s104 s105 s106 s107 s108 s109 s110 s111 s112 s113 s114 s115 s116 s117 s118 s119 s120 s121 s122 s123 s124 s125 s126 s127 s128 s129 : Value)
    (hQ : ∀ (v17 v49 v50 v51 v52 v53 v54 v55 v56 v57 v58 v59 v60 v61 v62 v63 v64 v65 v66 v67 v68 v69 v70 v71 v72 v73 v74 : Value) (w' : World), OSP H G (evict m (opath old)) (.slice A2 n2 c2) F2 w' → x0.grownBy w' none → PathO gp cp old w' →
      Q (.exit 0) (⟨List.toArray (s0 :: s1 :: s2 :: s3 :: s4 :: s5 :: s6 :: s7 :: s8 :: s9 :: s10 :: s11 :: s12 :: s13 :: (.pointer (some ⟨G, 0, none⟩)) :: s15 :: (.slice (some ⟨gp, 0, none⟩) 4 cp) :: v17 :: s18 :: s19 :: s20 :: s21 :: s22 :: s23 :: s24 :: s25 :: s26 :: s27 :: s28 :: s29 :: s30 :: s31 :: s32 :: s33 :: s34 :: s35 :: s36 :: s37 :: s38 :: s39 :: s40 :: s41 :: s42 :: s43 :: s44 :: s45 :: s46 :: s47 :: s48 :: v49 :: v50 :: v51 :: v52 :: v53 :: v54 :: v55 :: v56 :: v57 :: v58 :: v59 :: v60 :: v61 :: v62 :: v63 :: v64 :: v65 :: v66 :: v67 :: v68 :: v69 :: v70 :: v71 :: v72 :: v73 :: v74 :: s75 :: s76 :: s77 :: s78 :: s79 :: s80 :: s81 :: s82 :: s83 :: s84 :: s85 :: s86 :: s87 :: s88 :: s89 :: s90 :: s91 :: s92 :: s93 :: s94 :: s95 :: s96 :: s97 :: s98 :: s99 :: s100 :: s101 :: s102 :: s103 :: s104 :: s105 :: s106 :: s107 :: s108 :: s109 :: s110 :: s111 :: s112 :: s113 :: s114 :: s115 :: s116 :: s117 :: s118 :: s119 :: s120 :: s121 :: s122 :: s123 :: s124 :: s125 :: s126 :: s127 :: s128 :: s129 :: []), []⟩ : Act) w') :
    Code.wp Try.prog (.loop (loopNo Try.f39 0)) Q (⟨List.toArray (s0 :: s1 :: s2 :: s3 :: s4 :: s5 :: s6 :: s7 :: s8 :: s9 :: s10 :: s11 :: s12 :: s13 :: (.pointer (some ⟨G, 0, none⟩)) :: s15 :: (.slice (some ⟨gp, 0, none⟩) 4 cp) :: (.int .i64 0) :: s18 :: s19 :: s20 :: s21 :: s22 :: s23 :: s24 :: s25 :: s26 :: s27 :: s28 :: s29 :: s30 :: s31 :: s32 :: s33 :: s34 :: s35 :: s36 :: s37 :: s38 :: s39 :: s40 :: s41 :: s42 :: s43 :: s44 :: s45 :: s46 :: s47 :: s48 :: s49 :: s50 :: s51 :: s52 :: s53 :: s54 :: s55 :: s56 :: s57 :: s58 :: s59 :: s60 :: s61 :: s62 :: s63 :: s64 :: s65 :: s66 :: s67 :: s68 :: s69 :: s70 :: s71 :: s72 :: s73 :: s74 :: s75 :: s76 :: s77 :: s78 :: s79 :: s80 :: s81 :: s82 :: s83 :: s84 :: s85 :: s86 :: s87 :: s88 :: s89 :: s90 :: s91 :: s92 :: s93 :: s94 :: s95 :: s96 :: s97 :: s98 :: s99 :: s100 :: s101 :: s102 :: s103 :: s104 :: s105 :: s106 :: s107 :: s108 :: s109 :: s110 :: s111 :: s112 :: s113 :: s114 :: s115 :: s116 :: s117 :: s118 :: s119 :: s120 :: s121 :: s122 :: s123 :: s124 :: s125 :: s126 :: s127 :: s128 :: s129 :: []), []⟩ : Act) w := by
  conv => arg 2; arg 1; whnf
  have HQ := Lib.hid hQ
  have OC := Lib.hid OC
  have GC := Lib.hid GC
  have PO := Lib.hid PO
  have HN := Lib.hid HN
  have HNB := Lib.hid HNB
  have KS : ∀ k ∈ opath old, k < 15 := fun k hk => opath_lt hk
  clear hQ
  go_loopw [17] (fun i wr => ∃ j : Nat, j ≤ 4 ∧ i = .int .i64 j ∧ Hid (OSP H G (evict m ((opath old).take j)) (.slice A2 n2 c2) F2 wr) ∧ Hid (x0.grownBy wr none) ∧ Hid (PathO gp cp old wr)) (fun i _ => 4 - (intOf i).toNat)
  case atStart => exact ⟨0, Nat.zero_le _, rfl, OC, GC, PO⟩
  case round =>
    clear OC GC PO
    obtain ⟨j, hj, rfl, hO, hGr, hP⟩ := hrel
    by_cases hlt : j < 4
    · have i1 : (j : Int) < 4 := by omega
      obtain ⟨k, hk⟩ : ∃ k, (opath old)[j]? = some k := ⟨_, List.getElem?_eq_getElem (by omega)⟩
      have hk15 : k < 15 := KS k (List.mem_of_getElem? hk)
      have hnext := evict_next (m := m) hk
      have hle1 := evict_st_le (m := m) (ks := (opath old).take j) (fun y hy => by rw [HNB.out]; exact KS y (List.mem_of_mem_take hy))
      have hle2 := evict_st_le (m := m) (ks := (opath old).take (j + 1)) (fun y hy => by rw [HNB.out]; exact KS y (List.mem_of_mem_take hy))
      have hl15 := (evict_len ((opath old).take j) m).1
      rw [hnext] at hle2
      obtain ⟨mj, hmj⟩ : ∃ mj, evict m ((opath old).take j) = mj := ⟨_, rfl⟩
      rw [hmj] at hnext hle1 hle2 hl15 hO
      have HNX := Lib.hid hnext
      rw [HNB.out] at hl15
      obtain ⟨x, hx⟩ : ∃ x, mj.bk[k]? = some x := ⟨_, List.getElem?_eq_getElem (by omega)⟩
      have hxl : mj.st.length + x.length ≤ 1048576 := by
        have h1 := all_lenO m
        have h2 := HN.out
        unfold evict1 at hle2
        simp only [List.length_append, List.getD_eq_getElem?_getD, hx, Option.getD_some] at hle2
        omega
      obtain ⟨A0, n0, c0, A1, c1, F0, F1, hOS⟩ := OSP.forms hO.out
      obtain rfl := hOS.nb
      rw [hl15] at hOS
      obtain ⟨g0, rfl, hg0⟩ := hOS.top (by omega)
      have HX := Lib.hid hx
      have HXL := Lib.hid hxl
      have HOS := Lib.hid hOS
      have p1 := hP.out.at_ hk
      clear hnext hle1 hle2 hx hxl hmj hO hOS
      go_wp2_with fail
      obtain ⟨uk, Fi, cu, fu, ou, su, gu, _, step⟩ := HOS.out.bucket HX.out
      obtain ⟨Ak, ck, rfl, _, _⟩ := plst_rd (s := 2) (fun _ => rfl) (by omega) (CS.toRd _ ou)
      have OU := Lib.hid ou
      have HF0 := CS.lt _ HOS.out.b
      have HF1 := CS.lt _ HOS.out.s
      have SF0 : ∀ y, (Value.slice A1 mj.st.length c1).ownBlock = some y → y ∉ F0 := fun y hy hy' => HOS.out.d01 y hy' (row_ob HOS.out.s hy)
      have SG : ∀ y, (Value.slice A1 mj.st.length c1).ownBlock = some y → y ≠ G := fun y hy e => HOS.out.n1 (by rw [← e]; exact row_ob HOS.out.s hy)
      have P1 := Lib.hid p1
      have DP := Lib.hid (gbD (gbR wr none))
      have gpN : ∀ y, (Value.slice A1 mj.st.length c1).ownBlock = some y → y ≠ gp := fun y hy => hP.out.ne_blocks HOS.out.s (row_ob HOS.out.s hy)
      have gpL := Lib.hid (hP.out.lt gp rfl).2
      refine region_chain [.rd (.pointer (some ⟨G, 1, none⟩)), .rd (.slice A1 mj.st.length c1), .rd (.pointer (some ⟨G, 0, none⟩)), .rd (.slice (some ⟨g0, 0, none⟩) 15 c0), .rd (.slice (some ⟨gp, 0, none⟩) 4 cp), .rd (.int .i64 j), .rd (.pointer (some ⟨gp, j, none⟩)), .rd (.int .i64 k), .rd (.pointer (some ⟨g0, k, none⟩)), .rd (.slice Ak x.length ck), .ch, .rd (.pointer (some ⟨G, 1, none⟩)), .ch] (fun y => (Value.slice A1 mj.st.length c1).ownBlock = some y)
        [⟨[], fun _ w' => w' = wr.drew⟩,
         ⟨[65], fun l w' => Chg (fun y => (Value.slice A1 mj.st.length c1).ownBlock = some y) wr.drew w' ∧ ∃ F, (cblocks (mj.st ++ x)).own w' F (l.getD 0 undef) ∧ ∀ y ∈ F, y ∈ F1 ∨ wr.heap.size ≤ y⟩,
         ⟨[], fun _ w' => x0.grownBy w' none ∧ PathO gp cp old w' ∧ ∃ v F, OS H G { mj with st := mj.st ++ x } (.slice (some ⟨g0, 0, none⟩) 15 c0) v (.slice A2 n2 c2) F0 F F2 w'⟩]
        (by kernel_rfl) (by kernel_rfl) (by kernel_rfl) 2 (by kernel_rfl) (by simp only [flOk, and_true]) rfl rfl ?_ ?_
      · simp only [hopsK, hopK, Kd.next, and_true]
        have BB := HOS.out.blk.grow (gbD (gbR wr none))
        refine ⟨?_, ?_, ?_, ?_, ?_, ?_, ?_, ?_, ?_, ?_, ?_, ?_, ?_⟩
        · (intro f w4 hG hd; (try simp [depsC, dstAt, kAt, bindE, List.filter_cons, bd_data, bd_chain, bd_guard, bd_phase, bd_text, bd_gc] at hd); (first | simp [puts, dsts, Act.put, hd] | simp [puts, dsts, Act.put]); go_wp2_with fail; exact ⟨rfl, rfl⟩)
        · intro f w4 hG hd
          (try simp [depsC, dstAt, kAt, bindE, List.filter_cons, bd_data, bd_chain, bd_guard, bd_phase, bd_text, bd_gc] at hd)
          have B4 := BB.chg hG (fun e => SG _ e rfl)
          have b0 := B4.cell 1
          simp at b0
          (first | simp [puts, dsts, Act.put, hd] | simp [puts, dsts, Act.put])
          go_wp2_with fail
          exact ⟨rfl, rfl⟩
        · (intro f w4 hG hd; (try simp [depsC, dstAt, kAt, bindE, List.filter_cons, bd_data, bd_chain, bd_guard, bd_phase, bd_text, bd_gc] at hd); (first | simp [puts, dsts, Act.put, hd] | simp [puts, dsts, Act.put]); go_wp2_with fail; exact ⟨rfl, rfl⟩)
        · intro f w4 hG hd
          (try simp [depsC, dstAt, kAt, bindE, List.filter_cons, bd_data, bd_chain, bd_guard, bd_phase, bd_text, bd_gc] at hd)
          have B4 := BB.chg hG (fun e => SG _ e rfl)
          have b0 := B4.cell 0
          simp at b0
          (first | simp [puts, dsts, Act.put, hd] | simp [puts, dsts, Act.put])
          go_wp2_with fail
          exact ⟨rfl, rfl⟩
        · (intro f w4 hG hd; (try simp [depsC, dstAt, kAt, bindE, List.filter_cons, bd_data, bd_chain, bd_guard, bd_phase, bd_text, bd_gc] at hd); (first | simp [puts, dsts, Act.put, hd] | simp [puts, dsts, Act.put]); go_wp2_with fail; exact ⟨rfl, rfl⟩)
        · (intro f w4 hG hd; (try simp [depsC, dstAt, kAt, bindE, List.filter_cons, bd_data, bd_chain, bd_guard, bd_phase, bd_text, bd_gc] at hd); (first | simp [puts, dsts, Act.put, hd] | simp [puts, dsts, Act.put]); go_wp2_with fail; exact ⟨rfl, rfl⟩)
        · intro f w4 hG hd
          (try simp [depsC, dstAt, kAt, bindE, List.filter_cons, bd_data, bd_chain, bd_guard, bd_phase, bd_text, bd_gc] at hd)
          (first | simp [puts, dsts, Act.put, hd] | simp [puts, dsts, Act.put])
          go_wp2_with fail
          exact ⟨rfl, rfl⟩
        · intro f w4 hG hd
          (try simp [depsC, dstAt, kAt, bindE, List.filter_cons, bd_data, bd_chain, bd_guard, bd_phase, bd_text, bd_gc] at hd)
          have c4 : w4.cell? ⟨gp, j, none⟩ = some (.int .i64 k) := hG.cell (w := wr.drew) P1.out gpL.out (fun e => gpN _ e rfl)
          (first | simp [puts, dsts, Act.put, hd] | simp [puts, dsts, Act.put])
          go_wp2_with fail
          exact ⟨rfl, rfl⟩
        · intro f w4 hG hd
          (try simp [depsC, dstAt, kAt, bindE, List.filter_cons, bd_data, bd_chain, bd_guard, bd_phase, bd_text, bd_gc] at hd)
          (first | simp [puts, dsts, Act.put, hd] | simp [puts, dsts, Act.put])
          go_wp2_with fail
          exact ⟨rfl, rfl⟩
        · intro f w4 hG hd
          (try simp [depsC, dstAt, kAt, bindE, List.filter_cons, bd_data, bd_chain, bd_guard, bd_phase, bd_text, bd_gc] at hd)
          have c4 : w4.cell? ⟨g0, k, none⟩ = some (.slice Ak x.length ck) := hG.cell (w := wr.drew) cu (HF0 g0 hg0) (fun e => SF0 _ e hg0)
          (first | simp [puts, dsts, Act.put, hd] | simp [puts, dsts, Act.put])
          go_wp2_with fail
          exact ⟨rfl, rfl⟩
        · intro f w4 hG hI hd
          have hI : w4 = wr.drew := hI
          subst hI
          (try simp [depsC, dstAt, kAt, bindE, List.filter_cons, bd_data, bd_chain, bd_guard, bd_phase, bd_text, bd_gc] at hd)
          (first | simp [puts, dsts, Act.put, hd] | simp [puts, dsts, Act.put])
          have e3 : wr.ownsRow 0 90 2 (.slice A1 mj.st.length c1) mj.st.length (mj.st.flatMap Go.Proofs.Ythncoohkdmjcaaa.c2) := by
            obtain ⟨_, _, _, _, e3⟩ := plst_row (s := 2) (fun _ => rfl) (by omega) HOS.out.s
            exact e3 0 (by simp)
          have RR := (plst_rd' (s := 2) (fun _ => rfl) (by omega) (CS.grow _ (CS.toRd _ OU.out) (gbD (gbR wr none)))).2.2.2.rd
          refine wp_appendT wr.drew elBlock rfl (.tmp 56) (.tmp 64) rfl 0 _ _ _ (own_grow e3 (gbD (gbR wr none))) rfl Ak x.length ck _ rfl RR (fun u hu => by obtain ⟨x, _, hx⟩ := List.mem_flatMap.1 hu; exact c2_one x u hx) (by have := HXL.out; unfold maxLen; omega) (by have := HXL.out; omega) (Nat.zero_le _) ?_
          intro v' w5 o8 g5 k5
          rw [← List.flatMap_append] at o8
          have o8' := plst_own (s := 2) (fun _ => rfl) (by omega) c2_one o8
          obtain ⟨B, n', s', rfl⟩ := row_form o8'
          go_wp2_with fail
          refine ⟨_, rfl, ⟨Chg.of g5 (fun g h => h), _, o8', fun y hy => ?_⟩, ⟨Chg.of g5 (fun g h => h), ?_⟩⟩
          · rcases k5 y (by simpa using hy) with h1 | h1
            · exact .inl (row_ob HOS.out.s h1.symm)
            · exact .inr h1
          · simp [keepsC]
        · (intro f w4 hG hd; (try simp [depsC, dstAt, kAt, bindE, List.filter_cons, bd_data, bd_chain, bd_guard, bd_phase, bd_text, bd_gc] at hd); (first | simp [puts, dsts, Act.put, hd] | simp [puts, dsts, Act.put]); go_wp2_with fail; exact ⟨rfl, rfl⟩)
        · intro f w6 hG hI hd
          obtain ⟨hch, F, o6, l6⟩ := hI
          have o6 : (cblocks (mj.st ++ x)).own w6 F (f 65) := o6
          obtain ⟨B, n', s', e65⟩ := row_form o6
          (try simp [depsC, dstAt, kAt, bindE, List.filter_cons, bd_data, bd_chain, bd_guard, bd_phase, bd_text, bd_gc] at hd)
          have B4 := BB.chg hch (fun e => SG _ e rfl)
          have b0 := B4.cell 1
          have f0 := B4.frozen 1
          simp at b0
          rw [e65] at o6
          simp [puts, dsts, Act.put, hd, e65]
          go_wp2_with fail
          have hF : ∀ y ∈ F, y ∉ F0 ∧ y ∉ F2 ∧ y ≠ G ∧ H ≤ y := fun y hy => by
            rcases l6 y hy with h3 | h3
            · exact ⟨fun h4 => HOS.out.d01 y h4 h3, HOS.out.d12 y h3, fun e => HOS.out.n1 (e ▸ h3), HOS.out.l1 y h3⟩
            · exact ⟨fun h4 => by have := HF0 y h4; omega, fun h4 => by have := CS.lt _ HOS.out.p y h4; omega, fun h4 => by have := HOS.out.blk.lt; omega, by have := HOS.out.lg; have := HOS.out.blk.lt; omega⟩
          have hch' := (Chg.of (gbD (gbR wr none)) (by simp)).trans hch
          have hOS := HOS.out.stash hch' o6 (fun y hy e => SF0 y e hy) (fun y hy e => HOS.out.d12 y (row_ob HOS.out.s e) hy) (fun e => SG _ e rfl) hF
          exact ⟨rfl, .bool false, gbS (gbChg hGr.out hch' (fun i hi => by rw [hH]; exact HOS.out.l1 i (row_ob HOS.out.s hi))) (by rw [hH]; exact HOS.out.lg) _, (hP.out.chg hch' (fun y hy => hP.out.ne_blocks HOS.out.s (row_ob HOS.out.s hy))).chg (chgS _ _ _ _) (fun y hy => by rw [hy]; exact hP.out.ne_blk HOS.out.blk (by decide)), _, _, hOS⟩
      · intro f w5 hI hd
        obtain ⟨hg5, hp5, v5, F5, hos5⟩ := hI
        obtain ⟨⟨_, _, _, _⟩, ⟨B5, d5, rfl, _⟩, _⟩ := hos5.forms
        clear hd cu fu ou su gu step OU HF0 HF1 SF0 SG P1 DP gpN gpL p1
        simp only [puts, dsts, Act.put, List.filterMap_cons, List.filterMap_nil, List.setIfInBounds_toArray, List.set_cons_zero, List.set_cons_succ]
        have HG5 := Lib.hid hg5
        have HP5 := Lib.hid hp5
        have HS5 := Lib.hid hos5
        have P5 := Lib.hid (hp5.at_ hk)
        have gp5 := Lib.hid (hp5.lt gp rfl).2
        clear hg5 hp5 hos5
        go_wp2_with fail
        refine region_chain [.rd (.pointer (some ⟨G, 0, none⟩)), .rd (.slice (some ⟨g0, 0, none⟩) 15 c0), .rd (.slice (some ⟨gp, 0, none⟩) 4 cp), .rd (.int .i64 j), .rd (.pointer (some ⟨gp, j, none⟩)), .rd (.int .i64 k), .fl (rowE w5.heap.size 90 2), .rd (.pointer (some ⟨g0, k, none⟩)), .ch] (fun _ => False)
          [⟨[], fun _ w' => w5.drew.grownBy w' none⟩,
           ⟨[], fun _ w' => x0.grownBy w' none ∧ PathO gp cp old w' ∧ OSP H G (evict m ((opath old).take (j + 1))) (.slice A2 n2 c2) F2 w'⟩]
          (by kernel_rfl) (by kernel_rfl) (by kernel_rfl) 1 (by kernel_rfl) ?_ (gbR _ _) rfl ?_ ?_
        · simp only [flOk, true_and, and_true]
          refine ⟨rowE_st, stF_cons (fun l w1 w2 h hg => gbT h hg) (stF_cons ?_ stF_nil)⟩
          rintro l w1 w2 ⟨a1, a2, a3⟩ hg
          exact ⟨gbT a1 hg, a2.grow hg, a3.grow hg⟩
        · simp only [hopsK, hopK, Kd.next, and_true]
          have BB := HS5.out.blk.grow (gbD (gbR w5 none))
          refine ⟨?_, ?_, ?_, ?_, ?_, ?_, ?_, ?_, ?_⟩
          · (intro f w4 hG hd; (try simp [depsC, dstAt, kAt, bindE, List.filter_cons, bd_data, bd_chain, bd_guard, bd_phase, bd_text, bd_gc] at hd); (first | simp [puts, dsts, Act.put, hd] | simp [puts, dsts, Act.put]); go_wp2_with fail; exact ⟨rfl, rfl⟩)
          · intro f w4 hG hd
            (try simp [depsC, dstAt, kAt, bindE, List.filter_cons, bd_data, bd_chain, bd_guard, bd_phase, bd_text, bd_gc] at hd)
            have B4 := BB.chg hG id
            have b0 := B4.cell 0
            simp at b0
            (first | simp [puts, dsts, Act.put, hd] | simp [puts, dsts, Act.put])
            go_wp2_with fail
            exact ⟨rfl, rfl⟩
          · (intro f w4 hG hd; (try simp [depsC, dstAt, kAt, bindE, List.filter_cons, bd_data, bd_chain, bd_guard, bd_phase, bd_text, bd_gc] at hd); (first | simp [puts, dsts, Act.put, hd] | simp [puts, dsts, Act.put]); go_wp2_with fail; exact ⟨rfl, rfl⟩)
          · (intro f w4 hG hd; (try simp [depsC, dstAt, kAt, bindE, List.filter_cons, bd_data, bd_chain, bd_guard, bd_phase, bd_text, bd_gc] at hd); (first | simp [puts, dsts, Act.put, hd] | simp [puts, dsts, Act.put]); go_wp2_with fail; exact ⟨rfl, rfl⟩)
          · intro f w4 hG hd
            (try simp [depsC, dstAt, kAt, bindE, List.filter_cons, bd_data, bd_chain, bd_guard, bd_phase, bd_text, bd_gc] at hd)
            (first | simp [puts, dsts, Act.put, hd] | simp [puts, dsts, Act.put])
            go_wp2_with fail
            exact ⟨rfl, rfl⟩
          · intro f w4 hG hd
            (try simp [depsC, dstAt, kAt, bindE, List.filter_cons, bd_data, bd_chain, bd_guard, bd_phase, bd_text, bd_gc] at hd)
            have c4 : w4.cell? ⟨gp, j, none⟩ = some (.int .i64 k) := hG.cell (w := w5.drew) P5.out gp5.out id
            (first | simp [puts, dsts, Act.put, hd] | simp [puts, dsts, Act.put])
            go_wp2_with fail
            exact ⟨rfl, rfl⟩
          · intro f w4 hG hd
            clear hd
            simp [puts, dsts, Act.put]
            go_wp2_with fail
            exact ⟨_, rfl, rowE_new w4 _ _ hG.size, gbA (gbR _ _) _⟩
          · intro f w4 hG hd
            (try simp [depsC, dstAt, kAt, bindE, List.filter_cons, bd_data, bd_chain, bd_guard, bd_phase, bd_text, bd_gc] at hd)
            (first | simp [puts, dsts, Act.put, hd] | simp [puts, dsts, Act.put])
            go_wp2_with fail
            exact ⟨rfl, rfl⟩
          · intro f w4 hG hI hd
            have hI : w5.drew.grownBy w4 none := hI
            obtain ⟨uk, Fi, cu, fu, ou, su, gu, gu0, step⟩ := HS5.out.bucket (i := k) (x := x) HX.out
            (try simp [depsC, dstAt, kAt, bindE, List.filter_cons, bd_data, bd_chain, bd_guard, bd_phase, bd_text, bd_gc] at hd)
            obtain ⟨e74, ⟨g9, e73, hg9, o9⟩, _⟩ := hd
            rw [e73] at o9
            have o9' : (cblocks []).own w4 [g9] (.slice (some ⟨g9, 0, none⟩) 0 0) := plst_own (f := Go.Proofs.Ythncoohkdmjcaaa.c2) (xs := []) (n := 0) (base := 0) (fun _ => rfl) (by omega) c2_one o9
            have hch : Chg (fun y => y ∈ Fi) w5 w4 := Chg.of (gbT (gbD (gbR w5 none)) hI) (by simp)
            obtain ⟨F', h7, _⟩ := step w4 [] _ _ hch o9' (fun y hy => by simp at hy; subst hy; exact .inr hg9)
            have hev : ({ mj with st := mj.st ++ x, bk := mj.bk.set k [] } : OM) = evict m ((opath old).take (j + 1)) := by
              rw [HNX.out]
              unfold evict1
              rw [List.getD_eq_getElem?_getD, HX.out]
              rfl
            rw [hev] at h7
            have hg0' : H ≤ g0 := HS5.out.l0 g0 gu0
            have c6 := gbk (gbT (gbD (gbR w5 none)) hI) cu
            have f6 := (gbFrozen (gbT (gbD (gbR w5 none)) hI) (p := ⟨g0, k, none⟩) (CS.lt _ HS5.out.b g0 gu0) (by simp)).trans fu
            have G7 := gbChg (gbT HG5.out (gbT (gbD (gbR w5 none)) hI)) (chgS w4 g0 k (.slice (some ⟨g9, 0, none⟩) 0 0)) (fun y hy => by rw [hy, hH]; exact hg0')
            obtain ⟨nt, vt, ht⟩ := row_topo HS5.out.b
            have P7 := (HP5.out.grow (gbT (gbD (gbR w5 none)) hI)).chg (chgS w4 g0 k (.slice (some ⟨g9, 0, none⟩) 0 0)) (fun y hy => by rw [hy]; exact HP5.out.ne_row ht (by decide) rfl)
            simp [puts, dsts, Act.put, e74, e73]
            go_wp2_with fail
            exact ⟨rfl, .bool false, G7, P7, ⟨_, _, _, _, h7⟩⟩
        · intro f w6 hI hd
          obtain ⟨G7, P7, O7⟩ := hI
          have O7 := Lib.hid O7
          have G7 := Lib.hid G7
          have P7 := Lib.hid P7
          clear hd
          simp only [puts, dsts, Act.put, List.filterMap_cons, List.filterMap_nil, List.setIfInBounds_toArray, List.set_cons_zero, List.set_cons_succ]
          go_wp2_with fail
          go_roundw
          case rel => exact ⟨j + 1, by omega, by go_num, O7, G7, P7⟩
          case measure => simp [intOf]; omega
    · have hj4 : j = 4 := by omega
      subst hj4
      rw [List.take_of_length_le (by omega)] at hO
      go_wp2_with fail
      exact HQ.out _ _ _ _ _ _ _ _ _ _ _ _ _ _ _ _ _ _ _ _ _ _ _ _ _ _ _ _ hO.out hGr.out hP.out
end Go.Proofs.Ythncoohkdmjcaaa
