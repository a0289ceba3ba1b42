/-
  An access: the program's.
-/
import Derived.Test.YthncoohkdmjcaaaMgFnMemory30
import Derived.Test.YthncoohkdmjcaaaMgFnMemory32
namespace Go.Proofs.Ythncoohkdmjcaaa
open Go.RowKit
set_option linter.unusedVariables false
set_option linter.unusedSimpArgs false
set_option maxHeartbeats 4000000 in
set_option maxRecDepth 1000000 in
theorem implOramAccess_yes (m : OM) (v : Value) (id value leaf : Int) (write : Bool) (w : World) (h : AggR w (coram m) v) (hz : m.sz ≤ 1048576) (hb : accB m id value leaf = true) :
    Calls Try.prog 38 #[v, .int .i64 id, .bool write, .int .i64 value, .int .i64 leaf] w (AccJ m id write value leaf w) := by
  obtain ⟨u0, u1, u2, rfl, h0, h1, h2⟩ := coram_open h
  obtain ⟨A0, c0, rfl, hc0, hm0⟩ := cbs_rd h0
  obtain ⟨A1, c1, rfl, hc1, hm1, _⟩ := plst_rd (s := 2) (fun _ => rfl) (by omega) h1
  obtain ⟨A2, c2, rfl, hc2, hm2, _⟩ := cints_rd h2
  have HN := Lib.hid hz
  have HB := Lib.hid hb
  obtain ⟨ho, hi, hv, hl⟩ : oramB m = true ∧ inR id 0 11 = true ∧ wordB value = true ∧ inR leaf 0 7 = true := by
    unfold accB at hb
    simp only [Bool.and_eq_true] at hb
    exact ⟨hb.1.1.1, hb.1.1.2, hb.1.2, hb.2⟩
  have HOK := Lib.hid (oramB_is ho)
  have id0 : 0 ≤ id := by unfold inR at hi; simp at hi; omega
  have id1 : id ≤ 11 := by unfold inR at hi; simp at hi; omega
  have lf0 : 0 ≤ leaf := by unfold inR at hl; simp at hl; omega
  have lf1 : leaf ≤ 7 := by unfold inR at hl; simp at hl; omega
  have HA := Lib.hid h
  have HP := Lib.hid h2
  clear h hz h0 h1 h2 hb
  go_enter Try.func38, Try.ntmps38
  go_wp2_with fail
  obtain ⟨x0, e0⟩ : ∃ x : World, x = (w.alloc (.cells #[.slice A0 m.bk.length c0, .slice A1 m.st.length c1, .slice A2 m.pos.length c2] 36)).alloc (.cells #[(.slice none 0 0), (.slice none 0 0), (.slice none 0 0)] 36) := ⟨_, rfl⟩
  have K1 : Hid (Blk x0 w.heap.size 36 #[.slice A0 m.bk.length c0, .slice A1 m.st.length c1, .slice A2 m.pos.length c2]) := by rw [e0]; exact (Blk.new w _ _).grow (gbA (gbR _ _) _)
  have K2 : Hid (Blk x0 (w.heap.size + 1) 36 #[(.slice none 0 0), (.slice none 0 0), (.slice none 0 0)]) := by rw [e0]; exact Blk.new' _ _ _ _ (by simp)
  have G0 : Hid (w.grownBy x0 none) := by rw [e0]; exact gbA (gbA (gbR _ _) _) _
  have Z0 : Hid (x0.heap.size = w.heap.size + 1 + 1) := by rw [e0]; exact Lib.hid (by simp)
  rw [← e0]
  clear e0
  have q0 := K1.out.cell 0
  have q1 := K1.out.cell 1
  have q2 := K1.out.cell 2
  simp at q0 q1 q2
  go_wp2_with fail
  refine (implcopyOram_c m _ _ (AggR.grow HA.out G0.out) HN.out).mono ?_
  rintro e x1 ⟨V, F, rfl, a1, l1, g1⟩
  obtain ⟨B0, n0, s0, B1, n1, s1, B2, n2, s2, rfl⟩ := coram_oform a1
  have hz1 := g1.size
  have OA := Lib.hid (OS.made (cs := #[]) (g := x1.heap.size) (lo := x0.heap.size) (Blk.new x1 36 #[.slice B0 n0 s0, .slice B1 n1 s1, .slice B2 n2 s2]) (a1.grow (gbA (gbR x1 none) (.cells #[.slice B0 n0 s0, .slice B1 n1 s1, .slice B2 n2 s2] 36))) l1 hz1 (fun hx => by have := a1.lt _ hx; omega))
  have GA := Lib.hid (gbT g1 (gbA (gbR x1 none) (.cells #[.slice B0 n0 s0, .slice B1 n1 s1, .slice B2 n2 s2] 36)))
  clear q0 q1 q2
  have q0 := (K1.out.grow g1).cell 0
  have q1 := (K1.out.grow g1).cell 1
  have q2 := (K1.out.grow g1).cell 2
  have qz := (K1.out.grow g1).lt
  simp at q0 q1 q2
  clear a1 l1 g1 hz1
  go_wp2_with fail
  obtain ⟨x2, e2⟩ : ∃ x2, x1.alloc (.cells #[.slice B0 n0 s0, .slice B1 n1 s1, .slice B2 n2 s2] 36) = x2 := ⟨_, rfl⟩
  rw [e2] at OA GA ⊢
  clear e2 q0 q1 q2 qz
  obtain ⟨G, hG⟩ : ∃ G, x1.heap.size = G := ⟨_, rfl⟩
  rw [hG] at OA ⊢
  clear hG
  refine (implOramOk_c m _ _ (AggR.grow HA.out (gbT G0.out GA.out)) (by have := HN.out; omega)).mono ?_
  rintro e x3 ⟨rfl, g3⟩
  have OB := Lib.hid (OA.out.grow g3)
  have GB := Lib.hid (gbT GA.out g3)
  clear g3 OA GA
  rw [ho]
  go_wp2_with fail
  refine (implIn_c id 0 11 _).mono ?_
  rintro e x4 ⟨rfl, rfl⟩
  rw [hi]
  go_wp2_with fail
  refine (implIsWord_c value _).mono ?_
  rintro e x4 ⟨rfl, rfl⟩
  rw [hv]
  go_wp2_with fail
  refine (implIn_c leaf 0 7 _).mono ?_
  rintro e x4 ⟨rfl, rfl⟩
  rw [hl]
  obtain ⟨i, rfl⟩ := Int.eq_ofNat_of_zero_le id0
  obtain ⟨hp1, hp2⟩ := HOK.out.leaf_in (j := (i : Int)) id0 id1
  obtain ⟨old, hold⟩ : ∃ old, m.leaf (i : Int) = old := ⟨_, rfl⟩
  have hpos : m.pos[i]? = some old := by
    have hlt : i < m.pos.length := by rw [HOK.out.np]; omega
    rw [← hold]
    unfold OM.leaf
    rw [Int.toNat_natCast, List.getD_eq_getElem?_getD, List.getElem?_eq_getElem hlt]
    rfl
  have hnp := HOK.out.np
  have II := cints_rd' (CS.grow _ HP.out (gbT G0.out GB.out))
  obtain ⟨pb, po, rfl, hpb, hpc⟩ := Ints.at_ II.2.2.2 (by omega)
  have hc3 := hpc i (by omega)
  have q2 := (K1.out.grow GB.out).cell 2
  simp at q2
  rw [show m.pos.getD i 0 = old by rw [List.getD_eq_getElem?_getD, hpos]; rfl] at hc3
  have i2 : (i : Int) < 12 := by omega
  rw [hnp] at q2
  go_wp2_with fail
  refine (implOramPath_c old _).mono ?_
  rintro e x4 ⟨v4, rfl, o4, g4⟩
  have hol : (opathI old).length = 4 := by unfold opathI; rw [List.length_map]; rw [hold] at hp1 hp2; exact opath_len hp1 hp2
  rw [hol] at o4
  obtain ⟨gp, cp, rfl, hcp, hgp⟩ := own_form2 o4 (by omega)
  have PO : Hid (PathO gp cp old x4) := own_base o4 (Nat.zero_le _)
  have OC := Lib.hid (OB.out.grow g4)
  have GC := Lib.hid (gbT GB.out g4)
  have i1' := Lib.hid id1
  clear q2 hc3 hpc hpb II o4 g4 OB GB hgp hcp hol
  go_wp2_with fail
  have KS : ∀ k ∈ opath old, k < 15 := fun k hk => opath_lt hk
  have KL : (opath old).length = 4 := by rw [hold] at hp1 hp2; exact opath_len hp1 hp2
  have HNB := Lib.hid HOK.out.nb
  refine oaEvict x0 x0.heap.size G m gp cp old _ rfl HN.out HNB.out KL OC.out GC.out PO.out _ _ _ _ _ _ _ _ _ _ _ _ _ _ _ _ _ _ _ _ _ _ _ _ _ _ _ _ _ _ _ _ _ _ _ _ _ _ _ _ _ _ _ _ _ _ _ _ _ _ _ _ _ _ _ _ _ _ _ _ _ _ _ _ _ _ _ _ _ _ _ _ _ _ _ _ _ _ _ _ _ _ _ _ _ _ _ _ _ _ _ _ _ _ _ _ _ _ _ _ _ _ _ _ _ _ _ _ _ _ _ _ _ _ _ _ _ _ _ _ _ _ _ _ _ _ _ _ _ _ _ _ _ _ _ _ _ _ _ _ _ _ _ _ _ _ _ _ _ _ _ _ _ _ _ _ _ _ _ _ _ _ _ _ _ _ _ _ _ _ ?_
  clear OC GC PO
  intro v17 v56 v57 v58 v59 v60 v61 v62 v63 v64 v65 v66 v67 v68 v69 v70 v71 v72 v73 wr hO hGr
  have hO := Lib.hid hO
  have hGr := Lib.hid hGr
  obtain ⟨m1, hm1⟩ : ∃ m1, acc1 m (i : Int) = m1 := ⟨_, rfl⟩
  have hev : evict m (opath old) = m1 := by
    rw [← hm1]
    unfold acc1
    rw [hold]
  rw [hev] at hO
  have M1 := Lib.hid hm1
  have hnd := acc1_nd (id := (i : Int)) HOK.out
  rw [hm1] at hnd
  have hnds : (m1.st.map (·.1)).Nodup := by
    unfold OM.all at hnd
    rw [List.map_append, List.nodup_append] at hnd
    exact hnd.2.1
  have hst : m1.st.length ≤ 1048576 := by
    have h1 := all_lenO m
    have h2 := HN.out
    have h3 := evict_st_le (m := m) (ks := opath old) (fun y hy => by rw [HNB.out]; exact KS y hy)
    rw [← hm1]
    unfold acc1
    rw [hold]
    omega
  have ND := Lib.hid hnds
  obtain ⟨n, hn⟩ : ∃ n, m1.st.length = n := ⟨_, rfl⟩
  have hl15 : m1.bk.length = 15 := by rw [← hm1]; unfold acc1; rw [(evict_len _ _).1]; exact HNB.out
  have hps : m1.pos = m.pos := by rw [← hm1]; unfold acc1; exact (evict_len _ _).2
  obtain ⟨A0, n0, c0, A1, c1, A2, c2, F0, F1, F2, hOS⟩ := OSE.forms hO.out
  obtain rfl := hOS.nb
  rw [hn] at hst hOS
  have HNl := Lib.hid hn
  have b1 := hOS.blk.cell 1
  simp at b1
  clear hOS hev hnd hnds hm1 hn
  go_wp2_with fail
  refine oaFind x0 x0.heap.size G m1 i n value write _ _ _ rfl ND.out HNl.out hst hO.out hGr.out _ _ _ _ _ _ _ _ _ _ _ _ _ _ _ _ _ _ _ _ _ _ _ _ _ _ _ _ _ _ _ _ _ _ _ _ _ _ _ _ _ _ _ _ _ _ _ _ _ _ _ _ _ _ _ _ _ _ _ _ _ _ _ _ _ _ _ _ _ _ _ _ _ _ _ _ _ _ _ _ _ _ _ _ _ _ _ _ _ _ _ _ _ _ _ _ _ _ _ _ _ _ _ _ _ _ _ _ _ _ _ _ _ _ _ _ _ _ _ _ _ _ _ _ _ _ _ _ _ _ _ _ _ _ _ _ _ _ _ _ _ _ _ _ _ _ _ _ _ _ _ _ _ _ _ _ _ _ _ _ _ _ _ _ _ ?_
  clear hO hGr b1
  intro v20 v21 v77 v78 v79 v80 v81 v82 v83 v84 v85 v86 v87 v88 v89 v90 v91 v92 v93 v94 v95 v96 v97 v98 v99 wr hO hGr
  have hO := Lib.hid hO
  have hGr := Lib.hid hGr
  have KOL : Hid ((opathI old).length = 4) := by unfold opathI; rw [List.length_map]; exact KL
  have hrv : bval m1.st (i : Int) = accV m (i : Int) := by rw [← M1.out]; rfl
  obtain ⟨rv, hrv'⟩ : ∃ rv, accV m (i : Int) = rv := ⟨_, rfl⟩
  rw [hrv, hrv']
  have HRV := Lib.hid hrv'
  clear hrv hrv'
  cases write with
  | false =>
    simp only [Bool.false_eq_true, if_false] at hO
    obtain ⟨A0, n0, c0, A1, c1, A2, c2, F0, F1, F2, hOS⟩ := OSE.forms hO.out
    obtain ⟨g2, rfl, hg2, kp, fp, step⟩ := hOS.posAt (i := i) (z := old) (by rw [show ({ m1 with st := m1.st } : OM).pos = m1.pos from rfl, hps]; exact hpos)
    have b2 := hOS.blk.cell 2
    simp at b2
    have h3 := step leaf
    have h4 : OSE x0.heap.size G ({ m1 with st := m1.st, pos := m1.pos.set i leaf } : OM) _ := ⟨_, _, _, _, _, _, h3⟩
    rw [acc2_rd (value := value) M1.out hps] at h4
    have O3 := Lib.hid h4
    have G3 := Lib.hid (gbChg hGr.out (chgS wr g2 i (.int .i64 leaf)) (fun y hy => by rw [hy]; exact hOS.l2 g2 hg2))
    have hL3 := hOS.lg
    clear hOS step h3 h4
    go_wp2_with fail
    refine (implOramPath_c old _).mono ?_
    rintro e y4 ⟨v4, rfl, o4, g4⟩
    rw [KOL.out] at o4
    obtain ⟨gq, cq, rfl, hcq, hgq⟩ := own_form2 o4 (by omega)
    have PQ : Hid (PathO gq cq old y4) := own_base o4 (Nat.zero_le _)
    have OC := Lib.hid (O3.out.grow g4)
    have GC := Lib.hid (gbT G3.out g4)
    obtain ⟨m3, hm3⟩ : ∃ m3, acc2 m (i : Int) false value leaf = m3 := ⟨_, rfl⟩
    have ok3 : Hid (M3 m3) := by rw [← hm3]; exact m3_ok HOK.out HN.out id0 i1'.out
    have HM3 := Lib.hid hm3
    rw [hm3] at OC
    clear o4 g4 hcq hgq O3 G3 hm3
    go_wp2_with fail
    refine oaFill x0 x0.heap.size G m3 gq cq old _ rfl ok3.out KL OC.out GC.out PQ.out _ _ _ _ _ _ _ _ _ _ _ _ _ _ _ _ _ _ _ _ _ _ _ _ _ _ _ _ _ _ _ _ _ _ _ _ _ _ _ _ _ _ _ _ _ _ _ _ _ _ _ _ _ _ _ _ _ _ _ _ _ _ _ _ _ _ _ _ _ _ _ _ _ _ _ _ _ _ _ _ _ _ _ _ _ _ _ _ _ _ _ _ _ _ _ _ _ _ _ _ _ _ _ _ _ _ _ _ _ _ _ _ _ _ _ _ _ _ _ _ _ _ _ _ _ _ _ _ _ _ _ _ _ _ _ _ _ _ _ _ _ _ _ _ _ _ _ _ _ _ _ _ _ _ _ _ _ _ _ _ _ _ _ _ _ _ _ _ _ _ ?_
    intro v23 v24 v26 v121 v122 v123 v124 v125 v126 v127 v128 v129 v130 v131 v132 v133 v134 v135 v136 v137 v138 v139 v140 v141 v142 v143 v144 v145 v146 v147 v148 v149 v150 v151 v152 v153 v154 v155 v156 v157 v158 v159 v160 v161 v162 v163 v164 v165 v166 v167 v168 v169 wz hO hGr
    have hfin : fill m3 (opath old) = acc m (i : Int) false value leaf := by
      rw [← HM3.out, ← hold]
      rfl
    rw [hfin] at hO
    obtain ⟨A0, n0, c0, A1, c1, A2, c2, F0, F1, F2, hO'⟩ := OSE.forms hO
    have HO := Lib.hid hO'
    have v0 := hO'.blk.cell 0
    have v1 := hO'.blk.cell 1
    have v2 := hO'.blk.cell 2
    have X2 := Lib.hid (K2.out.grow hGr)
    have b0 := X2.out.cell 0
    have b1 := X2.out.cell 1
    have b2 := X2.out.cell 2
    have f0 := X2.out.frozen 0
    have f1 := X2.out.frozen 1
    have f2 := X2.out.frozen 2
    simp at v0 v1 v2 b0 b1 b2
    have GZ := Lib.hid hGr
    clear hO hO' hfin hGr
    go_wp2_with fail
    refine ret_c3t Try.results38 (by rfl) stOram (cs := #[.slice A0 n0 c0, .slice A1 (acc m (i : Int) false value leaf).st.length c1, .slice A2 (acc m (i : Int) false value leaf).pos.length c2]) ?B (by rfl) (by rfl) ?_
    case B => exact fill3 X2.out rfl _ _ _
    have ha := HO.out.agg
    have hz := Z0.out
    rw [← HRV.out, ← hold]
    exact AccJ.yes HB.out (ha.1.chg (chgS3 _ _ _ _ _) (fun y hy e => by have := ha.2 y hy; omega)) (fun y hy => by have := ha.2 y hy; omega) (gbChg (gbT G0.out GZ.out) (chgS3 _ _ _ _ _) (fun i hi => by omega))
  | true =>
    simp only [if_true] at hO
    cases hf : bhas m1.st (i : Int) with
    | true =>
      obtain ⟨A0, n0, c0, A1, c1, A2, c2, F0, F1, F2, hOS⟩ := OSE.forms hO.out
      obtain ⟨g2, rfl, hg2, kp, fp, step⟩ := hOS.posAt (i := i) (z := old) (by rw [show ({ m1 with st := m1.st.map (pv (i : Int) value) } : OM).pos = m1.pos from rfl, hps]; exact hpos)
      have b2 := hOS.blk.cell 2
      simp at b2
      have h3 := step leaf
      have h4 : OSE x0.heap.size G ({ m1 with st := m1.st.map (pv (i : Int) value), pos := m1.pos.set i leaf } : OM) _ := ⟨_, _, _, _, _, _, h3⟩
      rw [acc2_has (value := value) M1.out hps hf] at h4
      have O3 := Lib.hid h4
      have G3 := Lib.hid (gbChg hGr.out (chgS wr g2 i (.int .i64 leaf)) (fun y hy => by rw [hy]; exact hOS.l2 g2 hg2))
      have hL3 := hOS.lg
      clear hOS step h3 h4
      go_wp2_with fail
      refine (implOramPath_c old _).mono ?_
      rintro e y4 ⟨v4, rfl, o4, g4⟩
      rw [KOL.out] at o4
      obtain ⟨gq, cq, rfl, hcq, hgq⟩ := own_form2 o4 (by omega)
      have PQ : Hid (PathO gq cq old y4) := own_base o4 (Nat.zero_le _)
      have OC := Lib.hid (O3.out.grow g4)
      have GC := Lib.hid (gbT G3.out g4)
      obtain ⟨m3, hm3⟩ : ∃ m3, acc2 m (i : Int) true value leaf = m3 := ⟨_, rfl⟩
      have ok3 : Hid (M3 m3) := by rw [← hm3]; exact m3_ok HOK.out HN.out id0 i1'.out
      have HM3 := Lib.hid hm3
      rw [hm3] at OC
      clear o4 g4 hcq hgq O3 G3 hm3
      go_wp2_with fail
      refine oaFill x0 x0.heap.size G m3 gq cq old _ rfl ok3.out KL OC.out GC.out PQ.out _ _ _ _ _ _ _ _ _ _ _ _ _ _ _ _ _ _ _ _ _ _ _ _ _ _ _ _ _ _ _ _ _ _ _ _ _ _ _ _ _ _ _ _ _ _ _ _ _ _ _ _ _ _ _ _ _ _ _ _ _ _ _ _ _ _ _ _ _ _ _ _ _ _ _ _ _ _ _ _ _ _ _ _ _ _ _ _ _ _ _ _ _ _ _ _ _ _ _ _ _ _ _ _ _ _ _ _ _ _ _ _ _ _ _ _ _ _ _ _ _ _ _ _ _ _ _ _ _ _ _ _ _ _ _ _ _ _ _ _ _ _ _ _ _ _ _ _ _ _ _ _ _ _ _ _ _ _ _ _ _ _ _ _ _ _ _ _ _ _ ?_
      intro v23 v24 v26 v121 v122 v123 v124 v125 v126 v127 v128 v129 v130 v131 v132 v133 v134 v135 v136 v137 v138 v139 v140 v141 v142 v143 v144 v145 v146 v147 v148 v149 v150 v151 v152 v153 v154 v155 v156 v157 v158 v159 v160 v161 v162 v163 v164 v165 v166 v167 v168 v169 wz hO hGr
      have hfin : fill m3 (opath old) = acc m (i : Int) true value leaf := by
        rw [← HM3.out, ← hold]
        rfl
      rw [hfin] at hO
      obtain ⟨A0, n0, c0, A1, c1, A2, c2, F0, F1, F2, hO'⟩ := OSE.forms hO
      have HO := Lib.hid hO'
      have v0 := hO'.blk.cell 0
      have v1 := hO'.blk.cell 1
      have v2 := hO'.blk.cell 2
      have X2 := Lib.hid (K2.out.grow hGr)
      have b0 := X2.out.cell 0
      have b1 := X2.out.cell 1
      have b2 := X2.out.cell 2
      have f0 := X2.out.frozen 0
      have f1 := X2.out.frozen 1
      have f2 := X2.out.frozen 2
      simp at v0 v1 v2 b0 b1 b2
      have GZ := Lib.hid hGr
      clear hO hO' hfin hGr
      go_wp2_with fail
      refine ret_c3t Try.results38 (by rfl) stOram (cs := #[.slice A0 n0 c0, .slice A1 (acc m (i : Int) true value leaf).st.length c1, .slice A2 (acc m (i : Int) true value leaf).pos.length c2]) ?B (by rfl) (by rfl) ?_
      case B => exact fill3 X2.out rfl _ _ _
      have ha := HO.out.agg
      have hz := Z0.out
      rw [← HRV.out, ← hold]
      exact AccJ.yes HB.out (ha.1.chg (chgS3 _ _ _ _ _) (fun y hy e => by have := ha.2 y hy; omega)) (fun y hy => by have := ha.2 y hy; omega) (gbChg (gbT G0.out GZ.out) (chgS3 _ _ _ _ _) (fun i hi => by omega))
    | false =>
      rw [map_not hf] at hO
      obtain ⟨A0, n0, c0, A1, c1, A2, c2, F0, F1, F2, hOS⟩ := OSE.forms hO.out
      have o1 : wr.ownsRow 0 90 2 (.slice A1 m1.st.length c1) m1.st.length (m1.st.flatMap Go.Proofs.Ythncoohkdmjcaaa.c2) := by
        obtain ⟨_, _, _, _, o1⟩ := cblocks_form hOS.s
        exact o1
      have hlb : m1.st.length ≤ 1048576 := by rw [HNl.out]; exact hst
      obtain ⟨g2, rfl, hg2, kp, fp, _⟩ := hOS.posAt (i := i) (z := old) (by rw [show ({ m1 with st := m1.st } : OM).pos = m1.pos from rfl, hps]; exact hpos)
      have b1 := hOS.blk.cell 1
      simp at b1
      have hL3 := hOS.lg
      have HOS := Lib.hid hOS
      have ng2 : g2 ≠ G := fun e => hOS.n2 (by rw [← e]; exact hg2)
      have ng2' : G ≠ g2 := fun e => ng2 e.symm
      have N1 := Lib.hid (fun y (hy : (Value.slice A1 m1.st.length c1).ownBlock = some y) => row_ob hOS.s hy)
      clear hOS
      go_wp2_with (at_builtin; (refine wp_appendG wr wr.heap.size rfl elBlock rfl (.tmp 106) (.tmp 110) rfl #[.int .i64 i, .int .i64 value] rfl (by simp [Value.oneCell']) 0 _ _ _ o1 rfl rfl (by unfold maxLen; omega) (by omega) (Nat.zero_le _) ?_); intro v' w7 o7 g7 k7; have o7' := cblocks_push (w := wr) (b := ((i : Int), value)) o7; obtain ⟨A9, c9, hv9, _, _⟩ := cblocks_form o7'; rw [show (m1.st ++ [((i : Int), value)]).length = m1.st.length + 1 by simp] at hv9; subst hv9; have hch : Chg (fun y => (Value.slice A1 m1.st.length c1).ownBlock = some y) wr w7 := (Chg.of (gbA (gbR wr none) _) (by simp)).trans (Chg.of g7 fun g h => h); have b4 := (HOS.out.blk.chg hch (fun e => HOS.out.n1 (N1.out _ e))).cell 1; have b5 := (HOS.out.blk.chg hch (fun e => HOS.out.n1 (N1.out _ e))).cell 2; have f4 := (HOS.out.blk.chg hch (fun e => HOS.out.n1 (N1.out _ e))).frozen 1; have kp' := hch.cell kp (CS.lt _ HOS.out.p g2 hg2) (fun e => HOS.out.d12 _ (N1.out _ e) hg2); have fp' := hch.frozen fp (CS.lt _ HOS.out.p g2 hg2) (fun e => HOS.out.d12 _ (N1.out _ e) hg2); simp at b4 b5)
      have hF : ∀ y ∈ (Value.slice A9 (m1.st.length + 1) c9).ownBlock.toList, y ∉ F0 ∧ y ∉ F2 ∧ y ≠ G ∧ x0.heap.size ≤ y := fun y hy => by
        rcases k7 y (by simpa using hy) with h3 | h3
        · have h4 := N1.out y h3.symm
          exact ⟨fun h5 => HOS.out.d01 y h5 h4, HOS.out.d12 y h4, fun e => HOS.out.n1 (e ▸ h4), HOS.out.l1 y h4⟩
        · exact ⟨fun h4 => by have := CS.lt _ HOS.out.b y h4; omega, fun h4 => by have := CS.lt _ HOS.out.p y h4; omega, fun h4 => by have := HOS.out.blk.lt; omega, by have := HOS.out.blk.lt; omega⟩
      have hOS2 := HOS.out.stash hch o7' (fun y hy e => HOS.out.d01 y hy (N1.out y e)) (fun y hy e => HOS.out.d12 y (N1.out y e) hy) (fun e => HOS.out.n1 (N1.out _ e)) hF
      obtain ⟨g2', hgg, _, _, _, step⟩ := hOS2.posAt (i := i) (z := old) (by rw [show ({ m1 with st := m1.st ++ [((i : Int), value)] } : OM).pos = m1.pos from rfl, hps]; exact hpos)
      injection hgg with hgg
      injection hgg with hgg
      subst hgg
      have h4 : OSE x0.heap.size G ({ m1 with st := m1.st ++ [((i : Int), value)], pos := m1.pos.set i leaf } : OM) _ := ⟨_, _, _, _, _, _, step leaf⟩
      rw [acc2_not (value := value) M1.out hps hf] at h4
      have O3 := Lib.hid h4
      have G3 := Lib.hid (gbChg (gbChg (gbChg hGr.out hch (fun y hy => HOS.out.l1 y (N1.out y hy))) (chgS w7 G 1 (.slice A9 (m1.st.length + 1) c9)) (fun y hy => by rw [hy]; exact hL3)) (chgS _ g2 i (.int .i64 leaf)) (fun y hy => by rw [hy]; exact HOS.out.l2 g2 hg2))
      clear step h4 hOS2 hF b4 b5 f4 kp' fp' hch g7 k7 o7 o7' N1 HOS o1
      refine (implOramPath_c old _).mono ?_
      rintro e y4 ⟨v4, rfl, o4, g4⟩
      rw [KOL.out] at o4
      obtain ⟨gq, cq, rfl, hcq, hgq⟩ := own_form2 o4 (by omega)
      have PQ : Hid (PathO gq cq old y4) := own_base o4 (Nat.zero_le _)
      have OC := Lib.hid (O3.out.grow g4)
      have GC := Lib.hid (gbT G3.out g4)
      obtain ⟨m3, hm3⟩ : ∃ m3, acc2 m (i : Int) true value leaf = m3 := ⟨_, rfl⟩
      have ok3 : Hid (M3 m3) := by rw [← hm3]; exact m3_ok HOK.out HN.out id0 i1'.out
      have HM3 := Lib.hid hm3
      rw [hm3] at OC
      clear o4 g4 hcq hgq O3 G3 hm3
      go_wp2_with fail
      refine oaFill x0 x0.heap.size G m3 gq cq old _ rfl ok3.out KL OC.out GC.out PQ.out _ _ _ _ _ _ _ _ _ _ _ _ _ _ _ _ _ _ _ _ _ _ _ _ _ _ _ _ _ _ _ _ _ _ _ _ _ _ _ _ _ _ _ _ _ _ _ _ _ _ _ _ _ _ _ _ _ _ _ _ _ _ _ _ _ _ _ _ _ _ _ _ _ _ _ _ _ _ _ _ _ _ _ _ _ _ _ _ _ _ _ _ _ _ _ _ _ _ _ _ _ _ _ _ _ _ _ _ _ _ _ _ _ _ _ _ _ _ _ _ _ _ _ _ _ _ _ _ _ _ _ _ _ _ _ _ _ _ _ _ _ _ _ _ _ _ _ _ _ _ _ _ _ _ _ _ _ _ _ _ _ _ _ _ _ _ _ _ _ _ ?_
      intro v23 v24 v26 v121 v122 v123 v124 v125 v126 v127 v128 v129 v130 v131 v132 v133 v134 v135 v136 v137 v138 v139 v140 v141 v142 v143 v144 v145 v146 v147 v148 v149 v150 v151 v152 v153 v154 v155 v156 v157 v158 v159 v160 v161 v162 v163 v164 v165 v166 v167 v168 v169 wz hO hGr
      have hfin : fill m3 (opath old) = acc m (i : Int) true value leaf := by
        rw [← HM3.out, ← hold]
        rfl
      rw [hfin] at hO
      obtain ⟨A0, n0, c0, A1, c1, A2, c2, F0, F1, F2, hO'⟩ := OSE.forms hO
      have HO := Lib.hid hO'
      have v0 := hO'.blk.cell 0
      have v1 := hO'.blk.cell 1
      have v2 := hO'.blk.cell 2
      have X2 := Lib.hid (K2.out.grow hGr)
      have b0 := X2.out.cell 0
      have b1 := X2.out.cell 1
      have b2 := X2.out.cell 2
      have f0 := X2.out.frozen 0
      have f1 := X2.out.frozen 1
      have f2 := X2.out.frozen 2
      simp at v0 v1 v2 b0 b1 b2
      have GZ := Lib.hid hGr
      clear hO hO' hfin hGr
      go_wp2_with fail
      refine ret_c3t Try.results38 (by rfl) stOram (cs := #[.slice A0 n0 c0, .slice A1 (acc m (i : Int) true value leaf).st.length c1, .slice A2 (acc m (i : Int) true value leaf).pos.length c2]) ?B (by rfl) (by rfl) ?_
      case B => exact fill3 X2.out rfl _ _ _
      have ha := HO.out.agg
      have hz := Z0.out
      rw [← HRV.out, ← hold]
      exact AccJ.yes HB.out (ha.1.chg (chgS3 _ _ _ _ _) (fun y hy e => by have := ha.2 y hy; omega)) (fun y hy => by have := ha.2 y hy; omega) (gbChg (gbT G0.out GZ.out) (chgS3 _ _ _ _ _) (fun i hi => by omega))
end Go.Proofs.Ythncoohkdmjcaaa
