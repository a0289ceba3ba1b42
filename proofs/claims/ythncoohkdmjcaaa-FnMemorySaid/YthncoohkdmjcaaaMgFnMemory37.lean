/-
  An access: the reference's.
-/
import Derived.Test.YthncoohkdmjcaaaMgFnMemory34
import Derived.Test.YthncoohkdmjcaaaMgFnMemory36
namespace Go.Proofs.Ythncoohkdmjcaaa
open Go.RowKit
set_option linter.unusedVariables false
set_option linter.unusedSimpArgs false
theorem M3.szle {m : OM} (h : M3 m) : m.sz ≤ 2097152 := by
  have h1 := h.sz
  have h2 := sumL_flat m.bk
  unfold OM.all at h1
  rw [List.length_append] at h1
  unfold OM.sz szB
  rw [h2, h.nb, h.np]
  omega
theorem find_none {l : List Bk} {id : Int} (h : ∀ (i : Nat) (b' : Int × Int), l[i]? = some b' → b'.1 ≠ id) : bhas l id = false ∧ bval l id = 0 := by
  have hn : ∀ b ∈ l, b.1 ≠ id := fun b hb => by
    obtain ⟨i, hi⟩ := List.mem_iff_getElem?.1 hb
    exact h i b hi
  constructor
  · unfold bhas
    cases e : l.any (·.1 == id) with
    | false => rfl
    | true =>
      obtain ⟨b, hb, e2⟩ := List.any_eq_true.1 e
      exact absurd (by simpa using e2) (hn b hb)
  · unfold bval
    have : l.find? (·.1 == id) = none := List.find?_eq_none.2 fun b hb => by simpa using hn b hb
    rw [this]; rfl
theorem find_some {l : List Bk} {id v : Int} {j : Nat} {b : Bk} (hnd : (l.map (·.1)).Nodup) (hb : l[j]? = some b) (e : b.1 = id) : bhas l id = true ∧ bval l id = b.2 ∧ l.map (pv id v) = l.set j (b.1, v) := by
  have hmem := List.mem_of_getElem? hb
  refine ⟨?_, bval_mem hnd (by rw [← e]; exact hmem), ?_⟩
  · unfold bhas
    exact List.any_eq_true.2 ⟨b, hmem, by simpa using e⟩
  · apply List.ext_getElem?
    intro i
    rw [List.getElem?_set, List.getElem?_map]
    by_cases hij : j = i
    · subst hij
      have hj := (List.getElem?_eq_some_iff.1 hb).1
      rw [if_pos rfl, if_pos hj, hb]
      simp [pv, e]
    · rw [if_neg hij]
      cases hi : l[i]? with
      | none => rfl
      | some c =>
        have hc : c.1 ≠ id := fun ec => by
          have h1 : (l.map (·.1))[i]? = (l.map (·.1))[j]? := by rw [List.getElem?_map, List.getElem?_map, hi, hb]; simp [ec, e]
          obtain ⟨hi', _⟩ := List.getElem?_eq_some_iff.1 hi
          exact hij ((List.getElem?_inj (by simpa using hi') hnd).1 h1).symm
        simp [pv, hc]
theorem AccJ.yes' {m : OM} {id value leaf r o : Int} {write : Bool} {w w' : World} {V : Value} {F : List Nat} (hr : accV m id = r) (ho : m.leaf id = o) (h : accB m id value leaf = true) (ha : AggO w' (coram (acc m id write value leaf)) F V) (hl : ∀ g ∈ F, w.heap.size ≤ g) (hg : w.grownBy w' none) : AccJ m id write value leaf w (.returned (.tuple #[V, .int .i64 r, .int .i64 o, .bool true])) w' := by
  subst hr ho
  exact AccJ.yes h ha hl hg
set_option maxHeartbeats 4000000 in
set_option maxRecDepth 1000000 in
theorem specOramAccess_yes (m : OM) (v : Value) (id value leaf : Int) (write : Bool) (w : World) (h : AggR w (coram m) v) (hz : m.sz ≤ 1048576) (hb : accB m id value leaf = true) :
    Calls Try.prog 39 #[v, .int .i64 id, .bool write, .int .i64 value, .int .i64 leaf] w (AccJ m id write value leaf w) := by
  obtain ⟨u0, u1, u2, rfl, h0, h1, h2⟩ := coram_open h
  obtain ⟨A0, c0, rfl, hc0, hm0⟩ := cbs_rd h0
  obtain ⟨A1, c1, rfl, hc1, hm1, _⟩ := plst_rd (s := 2) (fun _ => rfl) (by omega) h1
  obtain ⟨A2, c2, rfl, hc2, hm2, _⟩ := cints_rd h2
  have HN := Lib.hid hz
  have HB := Lib.hid hb
  obtain ⟨ho, hi, hv, hl⟩ : oramB m = true ∧ inR id 0 11 = true ∧ wordB value = true ∧ inR leaf 0 7 = true := by
    unfold accB at hb
    simp only [Bool.and_eq_true] at hb
    exact ⟨hb.1.1.1, hb.1.1.2, hb.1.2, hb.2⟩
  have HOK := Lib.hid (oramB_is ho)
  have id0 : 0 ≤ id := by unfold inR at hi; simp at hi; omega
  have id1 : id ≤ 11 := by unfold inR at hi; simp at hi; omega
  have lf0 : 0 ≤ leaf := by unfold inR at hl; simp at hl; omega
  have lf1 : leaf ≤ 7 := by unfold inR at hl; simp at hl; omega
  have HA := Lib.hid h
  have HP := Lib.hid h2
  clear h hz h0 h1 h2 hb
  go_enter Try.func39, Try.ntmps39
  go_wp2_with fail
  obtain ⟨x0, e0⟩ : ∃ x : World, x = (w.alloc (.cells #[.slice A0 m.bk.length c0, .slice A1 m.st.length c1, .slice A2 m.pos.length c2] 36)).alloc (.cells #[(.slice none 0 0), (.slice none 0 0), (.slice none 0 0)] 36) := ⟨_, rfl⟩
  have K1 : Hid (Blk x0 w.heap.size 36 #[.slice A0 m.bk.length c0, .slice A1 m.st.length c1, .slice A2 m.pos.length c2]) := by rw [e0]; exact (Blk.new w _ _).grow (gbA (gbR _ _) _)
  have K2 : Hid (Blk x0 (w.heap.size + 1) 36 #[(.slice none 0 0), (.slice none 0 0), (.slice none 0 0)]) := by rw [e0]; exact Blk.new' _ _ _ _ (by simp)
  have G0 : Hid (w.grownBy x0 none) := by rw [e0]; exact gbA (gbA (gbR _ _) _) _
  have Z0 : Hid (x0.heap.size = w.heap.size + 1 + 1) := by rw [e0]; exact Lib.hid (by simp)
  rw [← e0]
  clear e0
  have q0 := K1.out.cell 0
  have q1 := K1.out.cell 1
  have q2 := K1.out.cell 2
  simp at q0 q1 q2
  go_wp2_with fail
  refine (specl31Copy_c m _ _ (AggR.grow HA.out G0.out) HN.out).mono ?_
  rintro e x1 ⟨V, F, rfl, a1, l1, g1⟩
  obtain ⟨B0, n0, s0, B1, n1, s1, B2, n2, s2, rfl⟩ := coram_oform a1
  have hz1 := g1.size
  have OA := Lib.hid (OS.made (cs := #[]) (g := x1.heap.size) (lo := x0.heap.size) (Blk.new x1 36 #[.slice B0 n0 s0, .slice B1 n1 s1, .slice B2 n2 s2]) (a1.grow (gbA (gbR x1 none) (.cells #[.slice B0 n0 s0, .slice B1 n1 s1, .slice B2 n2 s2] 36))) l1 hz1 (fun hx => by have := a1.lt _ hx; omega))
  have GA := Lib.hid (gbT g1 (gbA (gbR x1 none) (.cells #[.slice B0 n0 s0, .slice B1 n1 s1, .slice B2 n2 s2] 36)))
  clear q0 q1 q2
  have q0 := (K1.out.grow g1).cell 0
  have q1 := (K1.out.grow g1).cell 1
  have q2 := (K1.out.grow g1).cell 2
  have qz := (K1.out.grow g1).lt
  simp at q0 q1 q2
  clear a1 l1 g1 hz1
  go_wp2_with fail
  obtain ⟨x2, e2⟩ : ∃ x2, x1.alloc (.cells #[.slice B0 n0 s0, .slice B1 n1 s1, .slice B2 n2 s2] 36) = x2 := ⟨_, rfl⟩
  rw [e2] at OA GA ⊢
  clear e2 q0 q1 q2 qz
  obtain ⟨G, hG⟩ : ∃ G, x1.heap.size = G := ⟨_, rfl⟩
  rw [hG] at OA ⊢
  clear hG
  refine (specOramOk_c m _ _ (AggR.grow HA.out (gbT G0.out GA.out)) (by have := HN.out; omega)).mono ?_
  rintro e x3 ⟨rfl, g3⟩
  have OB := Lib.hid (OA.out.grow g3)
  have GB := Lib.hid (gbT GA.out g3)
  clear g3 OA GA
  rw [ho]
  go_wp2_with fail
  refine (specIn_c id 0 11 _).mono ?_
  rintro e x4 ⟨rfl, rfl⟩
  rw [hi]
  go_wp2_with fail
  refine (specIsWord_c value _).mono ?_
  rintro e x4 ⟨rfl, rfl⟩
  rw [hv]
  go_wp2_with fail
  refine (specIn_c leaf 0 7 _).mono ?_
  rintro e x4 ⟨rfl, rfl⟩
  rw [hl]
  obtain ⟨i, rfl⟩ := Int.eq_ofNat_of_zero_le id0
  obtain ⟨hp1, hp2⟩ := HOK.out.leaf_in (j := (i : Int)) id0 id1
  obtain ⟨old, hold⟩ : ∃ old, m.leaf (i : Int) = old := ⟨_, rfl⟩
  have hpos : m.pos[i]? = some old := by
    have hlt : i < m.pos.length := by rw [HOK.out.np]; omega
    rw [← hold]
    unfold OM.leaf
    rw [Int.toNat_natCast, List.getD_eq_getElem?_getD, List.getElem?_eq_getElem hlt]
    rfl
  have hnp := HOK.out.np
  have II := cints_rd' (CS.grow _ HP.out (gbT G0.out GB.out))
  obtain ⟨pb, po, rfl, hpb, hpc⟩ := Ints.at_ II.2.2.2 (by omega)
  have hc3 := hpc i (by omega)
  have q2 := (K1.out.grow GB.out).cell 2
  simp at q2
  rw [show m.pos.getD i 0 = old by rw [List.getD_eq_getElem?_getD, hpos]; rfl] at hc3
  have i2 : (i : Int) < 12 := by omega
  rw [hnp] at q2
  obtain ⟨A0', n0', c0', A1', c1', A2, cA2, F0, F1, F2, hOB⟩ := OSE.forms OB.out
  rw [hnp] at hOB
  have LF2 := CS.lt _ hOB.p
  have OP : Hid (OSP x0.heap.size G m (.slice A2 12 cA2) F2 x3) := Lib.hid ⟨_, _, _, _, hOB⟩
  clear hOB
  go_wp2_with fail
  refine (specOramPath_c old _).mono ?_
  rintro e x4 ⟨v4, rfl, o4, g4⟩
  have hol : (opathI old).length = 4 := by unfold opathI; rw [List.length_map]; rw [hold] at hp1 hp2; exact opath_len hp1 hp2
  rw [hol] at o4
  obtain ⟨gp, cp, rfl, hcp, hgp⟩ := own_form2 o4 (by omega)
  have NGP : gp ∉ F2 := fun e => by have := LF2 gp e; have := (o4.lt gp rfl).1; omega
  have PO : Hid (PathO gp cp old x4) := own_base o4 (Nat.zero_le _)
  have OC := Lib.hid (OP.out.grow g4)
  have GC := Lib.hid (gbT GB.out g4)
  have i1' := Lib.hid id1
  clear q2 hc3 hpc hpb II o4 g4 OB GB hgp hcp hol OP LF2
  have KS : ∀ k ∈ opath old, k < 15 := fun k hk => opath_lt hk
  have KL : (opath old).length = 4 := by rw [hold] at hp1 hp2; exact opath_len hp1 hp2
  have HNB := Lib.hid HOK.out.nb
  go_wp2_with fail
  refine saEvict x0 x0.heap.size G m gp cp old A2 12 cA2 F2 _ rfl HN.out HNB.out KL OC.out GC.out PO.out _ _ _ _ _ _ _ _ _ _ _ _ _ _ _ _ _ _ _ _ _ _ _ _ _ _ _ _ _ _ _ _ _ _ _ _ _ _ _ _ _ _ _ _ _ _ _ _ _ _ _ _ _ _ _ _ _ _ _ _ _ _ _ _ _ _ _ _ _ _ _ _ _ _ _ _ _ _ _ _ _ _ _ _ _ _ _ _ _ _ _ _ _ _ _ _ _ _ _ _ _ _ _ _ _ _ _ _ _ _ _ _ _ _ _ _ _ _ _ _ _ _ _ _ _ _ _ _ ?_
  clear OC GC PO
  intro v17 v49 v50 v51 v52 v53 v54 v55 v56 v57 v58 v59 v60 v61 v62 v63 v64 v65 v66 v67 v68 v69 v70 v71 v72 v73 v74 wr hO hGr hPp
  have hO := Lib.hid hO
  have hGr := Lib.hid hGr
  have hPp := Lib.hid hPp
  obtain ⟨m1, hm1⟩ : ∃ m1, acc1 m (i : Int) = m1 := ⟨_, rfl⟩
  have hev : evict m (opath old) = m1 := by
    rw [← hm1]
    unfold acc1
    rw [hold]
  rw [hev] at hO
  have M1 := Lib.hid hm1
  have hnd := acc1_nd (id := (i : Int)) HOK.out
  rw [hm1] at hnd
  have hnds : (m1.st.map (·.1)).Nodup := by
    unfold OM.all at hnd
    rw [List.map_append, List.nodup_append] at hnd
    exact hnd.2.1
  have hst : m1.st.length ≤ 1048576 := by
    have h1 := all_lenO m
    have h2 := HN.out
    have h3 := evict_st_le (m := m) (ks := opath old) (fun y hy => by rw [HNB.out]; exact KS y hy)
    rw [← hm1]
    unfold acc1
    rw [hold]
    omega
  have ND := Lib.hid hnds
  obtain ⟨n, hn⟩ : ∃ n, m1.st.length = n := ⟨_, rfl⟩
  have hl15 : m1.bk.length = 15 := by rw [← hm1]; unfold acc1; rw [(evict_len _ _).1]; exact HNB.out
  have hps : m1.pos = m.pos := by rw [← hm1]; unfold acc1; exact (evict_len _ _).2
  obtain ⟨A0, n0, c0, A1, c1, F0, F1, hOS⟩ := OSP.forms hO.out
  obtain rfl := hOS.nb
  rw [hn] at hst hOS
  have HNl := Lib.hid hn
  have FX := Lib.hid (plst_rd' (s := 2) (fun _ => rfl) (by omega) (CS.toRd _ hOS.s)).2.2.2
  obtain ⟨g2, rfl, hg2, kp, fp, stepP⟩ := hOS.posAt (i := i) (z := old) (by rw [hps]; exact hpos)
  have ng2 : g2 ≠ G := fun e => hOS.n2 (by rw [← e]; exact hg2)
  have ng2' : G ≠ g2 := fun e => ng2 e.symm
  have ngp : g2 ≠ gp := fun e => NGP (by rw [← e]; exact hg2)
  have b1 := hOS.blk.cell 1
  have b2 := hOS.blk.cell 2
  have f1 := hOS.blk.frozen 1
  simp at b1 b2
  have hrv : bval m1.st (i : Int) = accV m (i : Int) := by rw [← M1.out]; rfl
  have HVV := Lib.hid hrv
  have HOS := Lib.hid hOS
  have STP := Lib.hid stepP
  have hL3 := hOS.lg
  clear hOS hev hnd hnds hm1 hn stepP hrv
  go_wp2_with fail
  refine (specl31Find_c A1 n c1 m1.st i wr FX.out (by omega)).mono ?_
  rintro e w7 ⟨rfl, rfl⟩
  rcases findI_cases m1.st (i : Int) with ⟨hk, hno⟩ | ⟨jj, ⟨bi, bv⟩, hk, hb, he, _⟩
  · obtain ⟨hb0, hv0⟩ := find_none hno
    rw [hk]
    have HRV : Hid (accV m (i : Int) = 0) := by rw [← HVV.out]; exact Lib.hid hv0
    have HBH := Lib.hid hb0
    clear hno hk hv0 hb0
    cases write with
    | false =>
      have h4 : OSE x0.heap.size G ({ m1 with st := m1.st, pos := m1.pos.set i leaf } : OM) _ := ⟨_, _, _, _, _, _, STP.out leaf⟩
      rw [acc2_rd (value := value) M1.out hps] at h4
      have O3 := Lib.hid h4
      have G3 := Lib.hid (gbChg hGr.out (chgS wr g2 i (.int .i64 leaf)) (fun y hy => by rw [hy]; exact HOS.out.l2 g2 hg2))
      have P3 := Lib.hid (hPp.out.chg (chgS wr g2 i (.int .i64 leaf)) (fun y hy => by rw [hy]; exact ngp))
      clear h4
      go_wp2_with fail
      obtain ⟨m3, hm3⟩ : ∃ m3, acc2 m (i : Int) false value leaf = m3 := ⟨_, rfl⟩
      have ok3 : Hid (M3 m3) := by rw [← hm3]; exact m3_ok HOK.out HN.out id0 i1'.out
      have HM3 := Lib.hid hm3
      rw [hm3] at O3
      clear hm3
      refine saFill x0 x0.heap.size G m3 gp cp old _ rfl ok3.out KL O3.out G3.out P3.out _ _ _ _ _ _ _ _ _ _ _ _ _ _ _ _ _ _ _ _ _ _ _ _ _ _ _ _ _ _ _ _ _ _ _ _ _ _ _ _ _ _ _ _ _ _ _ _ _ _ _ _ _ _ _ _ _ _ _ _ _ _ _ _ _ _ _ _ _ _ _ _ _ _ _ _ _ _ _ _ _ _ _ _ _ _ _ _ _ _ _ _ _ _ _ _ _ _ _ _ _ _ _ _ _ _ _ _ _ _ _ _ _ _ _ _ _ _ _ _ _ _ _ _ _ _ _ _ ?_
      clear O3 G3 P3
      intro v20 v115 v116 v117 v118 v119 v120 v121 v122 v123 v124 v125 wz hO hGr
      have hfin : fill m3 (opath old) = acc m (i : Int) false value leaf := by
        rw [← HM3.out, ← hold]
        rfl
      have hks : ∀ k ∈ opath old, k < 15 := fun k hk => opath_lt hk
      have HSZ := Lib.hid (ok3.out.fill hks).szle
      rw [hfin] at hO HSZ
      obtain ⟨A0, n0, c0, A1, c1, A2, c2, F0, F1, F2, hO'⟩ := OSE.forms hO
      have HO := Lib.hid hO'
      have v0 := hO'.blk.cell 0
      have v1 := hO'.blk.cell 1
      have v2 := hO'.blk.cell 2
      simp at v0 v1 v2
      have GZ := Lib.hid hGr
      clear hO hO' hfin hGr hks
      go_wp2_with fail
      refine (specl31Copy_w (acc m (i : Int) false value leaf) _ _ (AggO.rd HO.out.agg.1) HSZ.out).mono ?_
      rintro e y9 ⟨V, F, rfl, a9, l9, g9⟩
      obtain ⟨B0, n0', s0, B1, n1', s1, B2, n2', s2, rfl⟩ := coram_oform a9
      have X2 := Lib.hid (K2.out.grow (gbT GZ.out g9))
      have b0 := X2.out.cell 0
      have b1 := X2.out.cell 1
      have b2 := X2.out.cell 2
      have f0 := X2.out.frozen 0
      have f1 := X2.out.frozen 1
      have f2 := X2.out.frozen 2
      simp at b0 b1 b2
      have A9 := Lib.hid a9
      have L9 := Lib.hid l9
      have G9 := Lib.hid g9
      clear a9 l9 g9 v0 v1 v2
      go_wp2_with fail
      refine ret_c3t Try.results39 (by rfl) stOram (cs := #[.slice B0 n0' s0, .slice B1 n1' s1, .slice B2 n2' s2]) ?B (by rfl) (by rfl) ?_
      case B => exact fill3 X2.out rfl _ _ _
      have hz := Z0.out
      have hz2 := GZ.out.size
      exact AccJ.yes' HRV.out hold HB.out (A9.out.chg (chgS3 _ _ _ _ _) (fun y hy e => by have := L9.out y hy; omega)) (fun y hy => by have := L9.out y hy; omega) (gbChg (gbT (gbT G0.out GZ.out) G9.out) (chgS3 _ _ _ _ _) (fun i hi => by omega))
    | true =>
      have o1 : wr.ownsRow 0 90 2 (.slice A1 n c1) n (m1.st.flatMap Go.Proofs.Ythncoohkdmjcaaa.c2) := by
        obtain ⟨_, _, hv, _, o1⟩ := cblocks_form HOS.out.s
        rw [HNl.out] at o1
        exact o1
      have N1 := Lib.hid (fun y (hy : (Value.slice A1 n c1).ownBlock = some y) => row_ob HOS.out.s hy)
      have AP := Lib.hid (fun (w7 : World) (v' : Value) (o7 : w7.ownsRow 0 90 2 v' (n + 1) (m1.st.flatMap Go.Proofs.Ythncoohkdmjcaaa.c2 ++ [.int .i64 i, .int .i64 0])) (g7 : (wr.alloc (.cells #[.int .i64 i, .int .i64 0] 90)).grownBy w7 (Value.slice A1 n c1).ownBlock) (k7 : ∀ g, v'.ownBlock = some g → some g = (Value.slice A1 n c1).ownBlock ∨ wr.heap.size < g) => by
        have o7' : (cblocks (m1.st ++ [((i : Int), (0 : Int))])).own w7 v'.ownBlock.toList v' := by
          refine cblocks_push (w := wr) (base := 0) (b := ((i : Int), (0 : Int))) ?_
          rw [HNl.out]
          exact o7
        have hch : Chg (fun y => (Value.slice A1 n c1).ownBlock = some y) wr w7 := (Chg.of (gbA (gbR wr none) _) (by simp)).trans (Chg.of g7 fun g h => h)
        have hF : ∀ y ∈ v'.ownBlock.toList, y ∉ F0 ∧ y ∉ F2 ∧ y ≠ G ∧ x0.heap.size ≤ y := fun y hy => by
          rcases k7 y (by simpa using hy) with h3 | h3
          · have h4 := N1.out y h3.symm
            exact ⟨fun h5 => HOS.out.d01 y h5 h4, HOS.out.d12 y h4, fun e => HOS.out.n1 (e ▸ h4), HOS.out.l1 y h4⟩
          · exact ⟨fun h4 => by have := CS.lt _ HOS.out.b y h4; omega, fun h4 => by have := CS.lt _ HOS.out.p y h4; omega, fun h4 => by have := HOS.out.blk.lt; omega, by have := HOS.out.blk.lt; omega⟩
        have hOS2 := HOS.out.stash hch o7' (fun y hy e => HOS.out.d01 y hy (N1.out y e)) (fun y hy e => HOS.out.d12 y (N1.out y e) hy) (fun e => HOS.out.n1 (N1.out _ e)) hF
        have hG := gbChg (gbChg hGr.out hch (fun y hy => HOS.out.l1 y (N1.out y hy))) (chgS w7 G 1 v') (fun y hy => by rw [hy]; exact hL3)
        have hP := (hPp.out.chg hch (fun y hy => hPp.out.ne_blocks HOS.out.s (N1.out y hy))).chg (chgS w7 G 1 v') (fun y hy => by rw [hy]; exact hPp.out.ne_blk HOS.out.blk (by decide))
        have b4 := (HOS.out.blk.chg hch (fun e => HOS.out.n1 (N1.out _ e))).cell 1
        have f4 := (HOS.out.blk.chg hch (fun e => HOS.out.n1 (N1.out _ e))).frozen 1
        simp at b4
        exact (⟨⟨_, _, _, hOS2⟩, hG, hP, b4, f4⟩ : (∃ u0 F0 F1, OS x0.heap.size G { m1 with st := m1.st ++ [((i : Int), (0 : Int))] } u0 v' (.slice (some ⟨g2, 0, none⟩) 12 cA2) F0 F1 F2 (w7.setCell ⟨G, 1, none⟩ v')) ∧ x0.grownBy (w7.setCell ⟨G, 1, none⟩ v') none ∧ PathO gp cp old (w7.setCell ⟨G, 1, none⟩ v') ∧ w7.cell? ⟨G, 1, none⟩ = some (.slice A1 n c1) ∧ w7.frozen? ⟨G, 1, none⟩ = false))
      have hget : (m1.st ++ [((i : Int), (0 : Int))])[n]? = some ((i : Int), (0 : Int)) := by rw [← HNl.out, List.getElem?_append_right (Nat.le_refl _)]; simp
      have hset : (m1.st ++ [((i : Int), (0 : Int))]).set n ((((i : Int), (0 : Int)) : Bk).1, value) = m1.st ++ [((i : Int), value)] := by rw [← HNl.out]; simp
      have HGT := Lib.hid hget
      have HST := Lib.hid hset
      have inn : (n : Int) < (n : Int) + 1 := by omega
      have o1h := Lib.hid o1
      clear hget hset o1
      go_wp2_with (at_builtin; (refine wp_appendG wr wr.heap.size rfl elBlock rfl (.tmp 93) (.tmp 96) rfl #[.int .i64 i, .int .i64 0] rfl (by simp [Value.oneCell']) 0 _ _ _ o1h.out rfl rfl (by unfold maxLen; omega) (by omega) (Nat.zero_le _) ?_); intro v' w7 o7 g7 k7; obtain ⟨A9, c9, rfl, _, _⟩ := own_form o7; obtain ⟨⟨U0, E0, E1, hO9⟩, hG9, hP9, b4, f4⟩ := AP.out w7 _ o7 g7 k7; obtain ⟨g9, rfl, hg9, k90, k91, kf9, step9⟩ := hO9.val (j := n) (b := ((i : Int), (0 : Int))) HGT.out; have hOV := step9 value; obtain ⟨g2', hgg, _, kp9, fp9, stepP9⟩ := hOV.posAt (i := i) (z := old) (by rw [hps]; exact hpos); injection hgg with hgg; injection hgg with hgg; subst hgg; have b10 := hOV.blk.cell 2; have HO9 := Lib.hid hO9; have HOV := Lib.hid hOV; have STP9 := Lib.hid stepP9; have HG9 := Lib.hid hG9; have HP9 := Lib.hid hP9; clear hO9 hOV stepP9 step9 hG9 hP9 o7 g7 k7; simp at b10)
      have h4 : OSE x0.heap.size G ({ m1 with st := (m1.st ++ [((i : Int), (0 : Int))]).set n ((((i : Int), (0 : Int)) : Bk).1, value), pos := m1.pos.set i leaf } : OM) _ := ⟨_, _, _, _, _, _, STP9.out leaf⟩
      rw [HST.out, acc2_not (value := value) M1.out hps HBH.out] at h4
      have O3 := Lib.hid h4
      have G3 := Lib.hid (gbChg (gbChg HG9.out (chgS _ g9 (n * 2 + 1) (.int .i64 value)) (fun y hy => by rw [hy]; exact HO9.out.l1 g9 hg9)) (chgS _ g2 i (.int .i64 leaf)) (fun y hy => by rw [hy]; exact HOS.out.l2 g2 hg2))
      have P3 := Lib.hid ((HP9.out.chg (chgS _ g9 (n * 2 + 1) (.int .i64 value)) (fun y hy => by rw [hy]; exact HP9.out.ne_blocks HO9.out.s hg9)).chg (chgS _ g2 i (.int .i64 leaf)) (fun y hy => by rw [hy]; exact ngp))
      clear h4 b10 k90 k91 kf9 kp9 fp9 b4 f4 AP
      obtain ⟨m3, hm3⟩ : ∃ m3, acc2 m (i : Int) true value leaf = m3 := ⟨_, rfl⟩
      have ok3 : Hid (M3 m3) := by rw [← hm3]; exact m3_ok HOK.out HN.out id0 i1'.out
      have HM3 := Lib.hid hm3
      rw [hm3] at O3
      clear hm3
      refine saFill x0 x0.heap.size G m3 gp cp old _ rfl ok3.out KL O3.out G3.out P3.out _ _ _ _ _ _ _ _ _ _ _ _ _ _ _ _ _ _ _ _ _ _ _ _ _ _ _ _ _ _ _ _ _ _ _ _ _ _ _ _ _ _ _ _ _ _ _ _ _ _ _ _ _ _ _ _ _ _ _ _ _ _ _ _ _ _ _ _ _ _ _ _ _ _ _ _ _ _ _ _ _ _ _ _ _ _ _ _ _ _ _ _ _ _ _ _ _ _ _ _ _ _ _ _ _ _ _ _ _ _ _ _ _ _ _ _ _ _ _ _ _ _ _ _ _ _ _ _ ?_
      clear O3 G3 P3
      intro v20 v115 v116 v117 v118 v119 v120 v121 v122 v123 v124 v125 wz hO hGr
      have hfin : fill m3 (opath old) = acc m (i : Int) true value leaf := by
        rw [← HM3.out, ← hold]
        rfl
      have hks : ∀ k ∈ opath old, k < 15 := fun k hk => opath_lt hk
      have HSZ := Lib.hid (ok3.out.fill hks).szle
      rw [hfin] at hO HSZ
      obtain ⟨A0, n0, c0, A1, c1, A2, c2, F0, F1, F2, hO'⟩ := OSE.forms hO
      have HO := Lib.hid hO'
      have v0 := hO'.blk.cell 0
      have v1 := hO'.blk.cell 1
      have v2 := hO'.blk.cell 2
      simp at v0 v1 v2
      have GZ := Lib.hid hGr
      clear hO hO' hfin hGr hks
      go_wp2_with fail
      refine (specl31Copy_w (acc m (i : Int) true value leaf) _ _ (AggO.rd HO.out.agg.1) HSZ.out).mono ?_
      rintro e y9 ⟨V, F, rfl, a9, l9, g9⟩
      obtain ⟨B0, n0', s0, B1, n1', s1, B2, n2', s2, rfl⟩ := coram_oform a9
      have X2 := Lib.hid (K2.out.grow (gbT GZ.out g9))
      have b0 := X2.out.cell 0
      have b1 := X2.out.cell 1
      have b2 := X2.out.cell 2
      have f0 := X2.out.frozen 0
      have f1 := X2.out.frozen 1
      have f2 := X2.out.frozen 2
      simp at b0 b1 b2
      have A9 := Lib.hid a9
      have L9 := Lib.hid l9
      have G9 := Lib.hid g9
      clear a9 l9 g9 v0 v1 v2
      go_wp2_with fail
      refine ret_c3t Try.results39 (by rfl) stOram (cs := #[.slice B0 n0' s0, .slice B1 n1' s1, .slice B2 n2' s2]) ?B (by rfl) (by rfl) ?_
      case B => exact fill3 X2.out rfl _ _ _
      have hz := Z0.out
      have hz2 := GZ.out.size
      exact AccJ.yes' HRV.out hold HB.out (A9.out.chg (chgS3 _ _ _ _ _) (fun y hy e => by have := L9.out y hy; omega)) (fun y hy => by have := L9.out y hy; omega) (gbChg (gbT (gbT G0.out GZ.out) G9.out) (chgS3 _ _ _ _ _) (fun i hi => by omega))
  · simp only at he
    subst he
    have HBV := Lib.hid (find_some (v := value) ND.out hb rfl)
    rw [hk]
    have HRV : Hid (accV m (i : Int) = bv) := by rw [← HVV.out]; exact Lib.hid HBV.out.2.1
    have hjn : jj < n := by rw [← HNl.out]; exact (List.getElem?_eq_some_iff.1 hb).1
    have hjn' : (jj : Int) < (n : Int) := by omega
    obtain ⟨g1, rfl, hg1, k0, k1, kf, stepV⟩ := HOS.out.val hb
    have STV := Lib.hid stepV
    clear hk stepV
    cases write with
    | false =>
      have h4 : OSE x0.heap.size G ({ m1 with st := m1.st, pos := m1.pos.set i leaf } : OM) _ := ⟨_, _, _, _, _, _, STP.out leaf⟩
      rw [acc2_rd (value := value) M1.out hps] at h4
      have O3 := Lib.hid h4
      have G3 := Lib.hid (gbChg hGr.out (chgS wr g2 i (.int .i64 leaf)) (fun y hy => by rw [hy]; exact HOS.out.l2 g2 hg2))
      have P3 := Lib.hid (hPp.out.chg (chgS wr g2 i (.int .i64 leaf)) (fun y hy => by rw [hy]; exact ngp))
      clear h4
      go_wp2_with fail
      obtain ⟨m3, hm3⟩ : ∃ m3, acc2 m (i : Int) false value leaf = m3 := ⟨_, rfl⟩
      have ok3 : Hid (M3 m3) := by rw [← hm3]; exact m3_ok HOK.out HN.out id0 i1'.out
      have HM3 := Lib.hid hm3
      rw [hm3] at O3
      clear hm3
      refine saFill x0 x0.heap.size G m3 gp cp old _ rfl ok3.out KL O3.out G3.out P3.out _ _ _ _ _ _ _ _ _ _ _ _ _ _ _ _ _ _ _ _ _ _ _ _ _ _ _ _ _ _ _ _ _ _ _ _ _ _ _ _ _ _ _ _ _ _ _ _ _ _ _ _ _ _ _ _ _ _ _ _ _ _ _ _ _ _ _ _ _ _ _ _ _ _ _ _ _ _ _ _ _ _ _ _ _ _ _ _ _ _ _ _ _ _ _ _ _ _ _ _ _ _ _ _ _ _ _ _ _ _ _ _ _ _ _ _ _ _ _ _ _ _ _ _ _ _ _ _ ?_
      clear O3 G3 P3
      intro v20 v115 v116 v117 v118 v119 v120 v121 v122 v123 v124 v125 wz hO hGr
      have hfin : fill m3 (opath old) = acc m (i : Int) false value leaf := by
        rw [← HM3.out, ← hold]
        rfl
      have hks : ∀ k ∈ opath old, k < 15 := fun k hk => opath_lt hk
      have HSZ := Lib.hid (ok3.out.fill hks).szle
      rw [hfin] at hO HSZ
      obtain ⟨A0, n0, c0, A1, c1, A2, c2, F0, F1, F2, hO'⟩ := OSE.forms hO
      have HO := Lib.hid hO'
      have v0 := hO'.blk.cell 0
      have v1 := hO'.blk.cell 1
      have v2 := hO'.blk.cell 2
      simp at v0 v1 v2
      have GZ := Lib.hid hGr
      clear hO hO' hfin hGr hks
      go_wp2_with fail
      refine (specl31Copy_w (acc m (i : Int) false value leaf) _ _ (AggO.rd HO.out.agg.1) HSZ.out).mono ?_
      rintro e y9 ⟨V, F, rfl, a9, l9, g9⟩
      obtain ⟨B0, n0', s0, B1, n1', s1, B2, n2', s2, rfl⟩ := coram_oform a9
      have X2 := Lib.hid (K2.out.grow (gbT GZ.out g9))
      have b0 := X2.out.cell 0
      have b1 := X2.out.cell 1
      have b2 := X2.out.cell 2
      have f0 := X2.out.frozen 0
      have f1 := X2.out.frozen 1
      have f2 := X2.out.frozen 2
      simp at b0 b1 b2
      have A9 := Lib.hid a9
      have L9 := Lib.hid l9
      have G9 := Lib.hid g9
      clear a9 l9 g9 v0 v1 v2
      go_wp2_with fail
      refine ret_c3t Try.results39 (by rfl) stOram (cs := #[.slice B0 n0' s0, .slice B1 n1' s1, .slice B2 n2' s2]) ?B (by rfl) (by rfl) ?_
      case B => exact fill3 X2.out rfl _ _ _
      have hz := Z0.out
      have hz2 := GZ.out.size
      exact AccJ.yes' HRV.out hold HB.out (A9.out.chg (chgS3 _ _ _ _ _) (fun y hy e => by have := L9.out y hy; omega)) (fun y hy => by have := L9.out y hy; omega) (gbChg (gbT (gbT G0.out GZ.out) G9.out) (chgS3 _ _ _ _ _) (fun i hi => by omega))
    | true =>
      have h5 := STV.out value
      have hset : m1.st.set jj ((((i : Int), bv) : Bk).1, value) = m1.st.map (pv (i : Int) value) := HBV.out.2.2.symm
      rw [hset] at h5
      have h5h := Lib.hid h5
      obtain ⟨g2', hgg, _, kp', fp', stepP'⟩ := h5.posAt (i := i) (z := old) (by rw [hps]; exact hpos)
      injection hgg with hgg
      injection hgg with hgg
      subst hgg
      have h4 : OSE x0.heap.size G ({ m1 with st := m1.st.map (pv (i : Int) value), pos := m1.pos.set i leaf } : OM) _ := ⟨_, _, _, _, _, _, stepP' leaf⟩
      rw [acc2_has (value := value) M1.out hps HBV.out.1] at h4
      have O3 := Lib.hid h4
      have b7 := h5.blk.cell 2
      simp at b7
      have G3 := Lib.hid (gbChg (gbChg hGr.out (chgS wr g1 (jj * 2 + 1) (.int .i64 value)) (fun y hy => by rw [hy]; exact HOS.out.l1 g1 hg1)) (chgS _ g2 i (.int .i64 leaf)) (fun y hy => by rw [hy]; exact HOS.out.l2 g2 hg2))
      have P3 := Lib.hid ((hPp.out.chg (chgS wr g1 (jj * 2 + 1) (.int .i64 value)) (fun y hy => by rw [hy]; exact hPp.out.ne_blocks HOS.out.s hg1)).chg (chgS _ g2 i (.int .i64 leaf)) (fun y hy => by rw [hy]; exact ngp))
      clear h4 h5 stepP' hset
      go_wp2_with fail
      obtain ⟨m3, hm3⟩ : ∃ m3, acc2 m (i : Int) true value leaf = m3 := ⟨_, rfl⟩
      have ok3 : Hid (M3 m3) := by rw [← hm3]; exact m3_ok HOK.out HN.out id0 i1'.out
      have HM3 := Lib.hid hm3
      rw [hm3] at O3
      clear hm3
      refine saFill x0 x0.heap.size G m3 gp cp old _ rfl ok3.out KL O3.out G3.out P3.out _ _ _ _ _ _ _ _ _ _ _ _ _ _ _ _ _ _ _ _ _ _ _ _ _ _ _ _ _ _ _ _ _ _ _ _ _ _ _ _ _ _ _ _ _ _ _ _ _ _ _ _ _ _ _ _ _ _ _ _ _ _ _ _ _ _ _ _ _ _ _ _ _ _ _ _ _ _ _ _ _ _ _ _ _ _ _ _ _ _ _ _ _ _ _ _ _ _ _ _ _ _ _ _ _ _ _ _ _ _ _ _ _ _ _ _ _ _ _ _ _ _ _ _ _ _ _ _ ?_
      clear O3 G3 P3
      intro v20 v115 v116 v117 v118 v119 v120 v121 v122 v123 v124 v125 wz hO hGr
      have hfin : fill m3 (opath old) = acc m (i : Int) true value leaf := by
        rw [← HM3.out, ← hold]
        rfl
      have hks : ∀ k ∈ opath old, k < 15 := fun k hk => opath_lt hk
      have HSZ := Lib.hid (ok3.out.fill hks).szle
      rw [hfin] at hO HSZ
      obtain ⟨A0, n0, c0, A1, c1, A2, c2, F0, F1, F2, hO'⟩ := OSE.forms hO
      have HO := Lib.hid hO'
      have v0 := hO'.blk.cell 0
      have v1 := hO'.blk.cell 1
      have v2 := hO'.blk.cell 2
      simp at v0 v1 v2
      have GZ := Lib.hid hGr
      clear hO hO' hfin hGr hks
      go_wp2_with fail
      refine (specl31Copy_w (acc m (i : Int) true value leaf) _ _ (AggO.rd HO.out.agg.1) HSZ.out).mono ?_
      rintro e y9 ⟨V, F, rfl, a9, l9, g9⟩
      obtain ⟨B0, n0', s0, B1, n1', s1, B2, n2', s2, rfl⟩ := coram_oform a9
      have X2 := Lib.hid (K2.out.grow (gbT GZ.out g9))
      have b0 := X2.out.cell 0
      have b1 := X2.out.cell 1
      have b2 := X2.out.cell 2
      have f0 := X2.out.frozen 0
      have f1 := X2.out.frozen 1
      have f2 := X2.out.frozen 2
      simp at b0 b1 b2
      have A9 := Lib.hid a9
      have L9 := Lib.hid l9
      have G9 := Lib.hid g9
      clear a9 l9 g9 v0 v1 v2
      go_wp2_with fail
      refine ret_c3t Try.results39 (by rfl) stOram (cs := #[.slice B0 n0' s0, .slice B1 n1' s1, .slice B2 n2' s2]) ?B (by rfl) (by rfl) ?_
      case B => exact fill3 X2.out rfl _ _ _
      have hz := Z0.out
      have hz2 := GZ.out.size
      exact AccJ.yes' HRV.out hold HB.out (A9.out.chg (chgS3 _ _ _ _ _) (fun y hy e => by have := L9.out y hy; omega)) (fun y hy => by have := L9.out y hy; omega) (gbChg (gbT (gbT G0.out GZ.out) G9.out) (chgS3 _ _ _ _ _) (fun i hi => by omega))
end Go.Proofs.Ythncoohkdmjcaaa
