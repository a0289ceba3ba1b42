/-
  Laws of oblivious memory: what their walks share.
-/
import Derived.Test.YthncoohkdmjcaaaMgFnPaths45
import Derived.Test.YthncoohkdmjcaaaChecked
import Derived.KernelRfl
import GoSem.ClaimJoined
import Derived.Test.YthncoohkdmjcaaaRows
import Derived.Test.YthncoohkdmjcaaaMgFnPaths2
import Derived.ProofKit
import Derived.OpenShut
import Derived.Lib.SmallJoins
import Derived.ChangeOld
namespace Go.Proofs.Ythncoohkdmjcaaa
open Go.RowKit
set_option linter.unusedVariables false
set_option linter.unusedSimpArgs false
theorem accB_yes {m : OM} {id value leaf : Int} (hm : OOk m) (h : 0 ≤ id ∧ id ≤ 11) (hv : 0 ≤ value ∧ value ≤ 4294967295) (hl : 0 ≤ leaf ∧ leaf ≤ 7) : accB m id value leaf = true := by
  unfold accB inR wordB
  rw [oramB_yes hm]
  simp
  omega
theorem implOramAccess_ok (m : OM) (hm : OOk m) (v : Value) (id value leaf : Int) (write : Bool) (w : World) (h : 0 ≤ id ∧ id ≤ 11) (hv : 0 ≤ value ∧ value ≤ 4294967295) (hl : 0 ≤ leaf ∧ leaf ≤ 7) (ha : AggR w (coram m) v) :
    Calls Try.prog 38 #[v, .int .i64 id, .bool write, .int .i64 value, .int .i64 leaf] w fun e w' => ∃ V F, e = .returned (.tuple #[V, .int .i64 (accV m id), .int .i64 (m.leaf id), .bool true]) ∧ AggO w' (coram (acc m id write value leaf)) F V ∧ (∀ y ∈ F, w.heap.size ≤ y) ∧ w.grownBy w' none := by
  have hb := accB_yes hm h hv hl
  refine (implOramAccess_c m v id value leaf write w ha (by have := hm.szle; omega)).mono ?_
  rintro e w' ⟨V, F, rfl, h1, h2, h3⟩
  rw [hb] at h1 ⊢
  exact ⟨V, F, rfl, h1, h2, h3⟩
theorem Blk.ld3 {w : World} {g : Nat} {T : TypeId} {a b c : Value} (h : Blk w g T #[a, b, c]) : w.cell? ⟨g, 0, none⟩ = some a ∧ w.cell? ⟨g, 1, none⟩ = some b ∧ w.cell? ⟨g, 2, none⟩ = some c := by
  have h0 := h.cell 0
  have h1 := h.cell 1
  have h2 := h.cell 2
  simp at h0 h1 h2
  exact ⟨h0, h1, h2⟩
theorem acc_okw {m : OM} {id value leaf : Int} {write : Bool} (hm : OOk m) (h : 0 ≤ id ∧ id ≤ 11) (hv : 0 ≤ value ∧ value ≤ 4294967295) (hl : 0 ≤ leaf ∧ leaf ≤ 7) : OOk (acc m id write value leaf) := acc_ok hm h.1 h.2 hv.1 hv.2 hl.1 hl.2
theorem acc_leaf {m : OM} {i : Nat} {value leaf : Int} {write : Bool} (hm : OOk m) (h : i ≤ 11) : (acc m (i : Int) write value leaf).leaf (i : Int) = leaf := by
  unfold OM.leaf
  rw [acc_pos]
  have := hm.np
  simp [List.getD_eq_getElem?_getD, this, show i < 12 by omega]
theorem leaf_range {m : OM} (hm : OOk m) {i : Nat} (h : i ≤ 11) : 0 ≤ m.leaf (i : Int) ∧ m.leaf (i : Int) ≤ 7 := hm.leaf_in (by omega) (by omega)
theorem path_step {a : Int} (h : 0 ≤ a ∧ a ≤ 7) {j : Nat} (hj : j < 3) : 1 ≤ (opathI a).getD j 0 ∧ (opathI a).getD j 0 ≤ 14 ∧ (opathI a).getD (j + 1) 0 = ((opathI a).getD j 0 - 1) / 2 := by
  have ha : a = 0 ∨ a = 1 ∨ a = 2 ∨ a = 3 ∨ a = 4 ∨ a = 5 ∨ a = 6 ∨ a = 7 := by omega
  have hj' : j = 0 ∨ j = 1 ∨ j = 2 := by omega
  rcases ha with rfl | rfl | rfl | rfl | rfl | rfl | rfl | rfl <;> rcases hj' with rfl | rfl | rfl <;> decide
theorem path_zero {a : Int} (h : 0 ≤ a ∧ a ≤ 7) : (opathI a).getD 0 0 = a + 7 := by
  have ha : a = 0 ∨ a = 1 ∨ a = 2 ∨ a = 3 ∨ a = 4 ∨ a = 5 ∨ a = 6 ∨ a = 7 := by omega
  rcases ha with rfl | rfl | rfl | rfl | rfl | rfl | rfl | rfl <;> decide
/-- The leaves of a memory, as they lie. -/
theorem pos_cells {w : World} {m : OM} {F : List Nat} {u0 u1 : Value} {A : Option Addr} {n c : Nat} (h : AggO w (coram m) F (.agg #[u0, u1, .slice A n c])) (hm : OOk m) : n = 12 ∧ ∃ g, A = some ⟨g, 0, none⟩ ∧ g < w.heap.size ∧ ∀ i, i ≤ 11 → w.cell? ⟨g, i, none⟩ = some (.int .i64 (m.leaf (i : Int))) := by
  obtain ⟨v0, v1, v2, F0, F1, F2, e, rfl, h0, h1, h2, _⟩ := coram_oopen h
  injection e with e
  injection e with e
  injection e with e0 e
  injection e with e1 e
  injection e with e2 e
  subst e2
  obtain ⟨A', c', hv, _, o⟩ := cints_row h2
  have o := o 0 (by simp)
  injection hv with e1 e2 e3
  subst e1 e2 e3
  rw [hm.np] at o
  obtain ⟨g, cc, hv, hc, hb⟩ := own_form2 o (by omega)
  injection hv with e1 e2 e3
  subst e1
  refine ⟨hm.np, g, rfl, (o.lt g rfl).2, fun i hi => ?_⟩
  have hlt : i < m.pos.length := by rw [hm.np]; omega
  rw [o.cellAt i (by omega), List.getElem?_map, List.getElem?_eq_getElem hlt]
  unfold OM.leaf
  rw [Int.toNat_natCast, List.getD_eq_getElem?_getD, List.getElem?_eq_getElem hlt]
  rfl
end Go.Proofs.Ythncoohkdmjcaaa
/-
  FnPaths: the walk.
-/
namespace Go.Proofs.Ythncoohkdmjcaaa
open Go.RowKit
set_option linter.unusedVariables false
set_option linter.unusedSimpArgs false
set_option maxHeartbeats 4000000 in
set_option maxRecDepth 1000000 in
theorem FnPaths.walk (w : World) (A : Option Addr) (n c : Nat) (zs : List Int) (hz : IntsK .u8 w A n zs) (hm : n ≤ maxLen) :
    Calls Try.prog 8 #[.slice A n c] w fun e w' => e = .returned (.bool true) ∧ w.grownBy w' none := by
  unfold maxLen at hm
  by_cases hbig : 1048576 < n
  · have hd : decide (1048576 < n) = true := by simp; omega
    go_enter Try.func8, Try.ntmps8
    go_wp2_with fail
    refine (big_c _ A n c (by omega)).mono ?_
    rintro e w1 ⟨rfl, rfl⟩
    go_wp2_with fail
    go_ret
    exact ⟨rfl, gbR _ _⟩
  · have hd : decide (1048576 < n) = false := by simp; omega
    have H := Lib.hid (bytesIn hz (by omega))
    clear hz
    go_enter Try.func8, Try.ntmps8
    go_wp2_with fail
    refine (big_c _ A n c (by omega)).mono ?_
    rintro e w1 ⟨rfl, rfl⟩
    rw [hd]
    clear hd hbig hm
    go_wp2_with fail
    refine (DrawOram_c _ A n c zs H.out).mono ?_
    rintro e w1 ⟨V, m, F, rfl, hm, ha, hl, hg1⟩
    obtain ⟨A0, n0, c0, A1, n1, c1, A2, n2, c2, rfl⟩ := coram_oform ha
    have HM := Lib.hid hm
    obtain ⟨gO, hgO⟩ : ∃ x, w1.heap.size = x := ⟨_, rfl⟩
    obtain ⟨w2, hw2⟩ : ∃ x : World, w1.alloc (.cells #[.slice A0 n0 c0, .slice A1 n1 c1, .slice A2 n2 c2] 36) = x := ⟨_, rfl⟩
    have HA : Hid (AggO w2 (coram m) F (.agg #[.slice A0 n0 c0, .slice A1 n1 c1, .slice A2 n2 c2])) := by rw [← hw2]; exact Lib.hid (ha.grow (gbA (gbR _ _) _))
    have BO : Hid (Blk w2 gO 36 #[.slice A0 n0 c0, .slice A1 n1 c1, .slice A2 n2 c2]) := by rw [← hw2, ← hgO]; exact Lib.hid (Blk.new _ _ _)
    have G2 : Hid (w.grownBy w2 none) := by rw [← hw2]; exact Lib.hid (gbA hg1 _)
    clear ha hl hg1 hm
    go_wp2_with fail
    try rw [hw2]
    try rw [hgO]
    clear hw2 hgO
    refine (DrawPlaces_c _ A n c zs (H.out.grow G2.out)).mono ?_
    rintro e w3 ⟨v, qs, rfl, hown, hq, hg⟩
    obtain ⟨B, d, rfl, _, _⟩ := own_form hown
    have HI := Lib.hid (show Ints w3 B 12 qs from Rd.ofOwn hown)
    have HQ := Lib.hid hq
    have HA3 := Lib.hid (HA.out.grow hg)
    have BO3 := Lib.hid (BO.out.grow hg)
    have G3 := Lib.hid (gbT G2.out hg)
    obtain ⟨qb, qo, rfl, hqb, hqc⟩ := HI.out.at_ (by omega)
    have HQC := Lib.hid hqc
    clear hown hq hg HA BO G2 H hqc
    have c0 := HQC.out 0 (by omega)
    have c1 := HQC.out 1 (by omega)
    have c2' := HQC.out 2 (by omega)
    rw [Nat.add_zero] at c0
    have p0 := HQ.out.at_ 0 (by omega)
    have p1 := HQ.out.at_ 1 (by omega)
    have p2 := HQ.out.at_ 2 (by omega)
    obtain ⟨q0, hq0⟩ : ∃ q, qs.getD 0 0 = q := ⟨_, rfl⟩
    obtain ⟨q1, hq1⟩ : ∃ q, qs.getD 1 0 = q := ⟨_, rfl⟩
    obtain ⟨q2, hq2⟩ : ∃ q, qs.getD 2 0 = q := ⟨_, rfl⟩
    rw [hq0] at c0 p0
    rw [hq1] at c1 p1
    rw [hq2] at c2' p2
    obtain ⟨o0, o1, o2⟩ := BO3.out.ld3
    go_wp2_with fail
    have r0 := Int.emod_nonneg q0 (b := 12) (by omega)
    have r0' := Int.emod_lt_of_pos q0 (b := 12) (by omega)
    have r1 := Int.emod_nonneg q1 (b := 8) (by omega)
    have r1' := Int.emod_lt_of_pos q1 (b := 8) (by omega)
    have r2 := Int.emod_nonneg q2 (b := 8) (by omega)
    have r2' := Int.emod_lt_of_pos q2 (b := 8) (by omega)
    obtain ⟨z0, hz0⟩ : ∃ z, q0 % 12 = z := ⟨_, rfl⟩
    obtain ⟨a, hza⟩ : ∃ z, q1 % 8 = z := ⟨_, rfl⟩
    obtain ⟨b, hzb⟩ : ∃ z, q2 % 8 = z := ⟨_, rfl⟩
    rw [hz0] at r0 r0' ⊢
    rw [hza] at r1 r1' ⊢
    rw [hzb] at r2 r2' ⊢
    clear hz0 hza hzb p0 p1 p2 c0 c1 c2' hq0 hq1 hq2
    obtain ⟨i, rfl⟩ := Int.eq_ofNat_of_zero_le r0
    have hi : i ≤ 11 := by omega
    have ii : 0 ≤ (i : Int) ∧ (i : Int) ≤ 11 := by omega
    have ra : 0 ≤ a ∧ a ≤ 7 := by omega
    have rb : 0 ≤ b ∧ b ≤ 7 := by omega
    clear r1 r1' r2 r2' r0'
    refine (implOramAccess_ok m HM.out _ i 5 a true w3 ii (by omega) ra (AggO.rd HA3.out)).mono ?_
    rintro e w4 ⟨V1, F1, rfl, ha1, hl1, g1⟩
    have M1 := Lib.hid (acc_okw (write := true) (value := 5) HM.out ii (by omega) ra)
    have L1 := Lib.hid (acc_leaf (write := true) (value := 5) (leaf := a) HM.out hi)
    obtain ⟨m1, hm1⟩ : ∃ x, acc m (i : Int) true 5 a = x := ⟨_, rfl⟩
    rw [hm1] at ha1 M1 L1
    obtain ⟨B0, k0, s0, B1, k1, s1, B2, k2, s2, rfl⟩ := coram_oform ha1
    obtain ⟨rfl, gp0, rfl, hgp0, pc0⟩ := pos_cells HA3.out HM.out
    have pc0 := pc0 i hi
    have f0 := leaf_range HM.out hi
    obtain ⟨fst, hfst⟩ : ∃ x, m.leaf (i : Int) = x := ⟨_, rfl⟩
    rw [hfst] at pc0 f0 ⊢
    have PC0 := Lib.hid (gbk g1 pc0)
    have BO4 := Lib.hid (BO3.out.grow g1)
    obtain ⟨g8, hg8⟩ : ∃ x, w4.heap.size = x := ⟨_, rfl⟩
    obtain ⟨w5, hw5⟩ : ∃ x : World, w4.alloc (.cells #[.slice B0 k0 s0, .slice B1 k1 s1, .slice B2 k2 s2] 36) = x := ⟨_, rfl⟩
    have A5 : Hid (AggO w5 (coram m1) F1 (.agg #[.slice B0 k0 s0, .slice B1 k1 s1, .slice B2 k2 s2])) := by rw [← hw5]; exact Lib.hid (ha1.grow (gbA (gbR _ _) _))
    have B8 : Hid (Blk w5 g8 36 #[.slice B0 k0 s0, .slice B1 k1 s1, .slice B2 k2 s2]) := by rw [← hw5, ← hg8]; exact Lib.hid (Blk.new _ _ _)
    have G5 : Hid (w.grownBy w5 none) := by rw [← hw5]; exact Lib.hid (gbA (gbT G3.out g1) _)
    have BO5 : Hid (Blk w5 gO 36 #[.slice A0 n0 c0, .slice A1 n1 c1, .slice (some ⟨gp0, 0, none⟩) 12 c2]) := by rw [← hw5]; exact Lib.hid (BO4.out.grow (gbA (gbR _ _) _))
    have PC5 : Hid (w5.cell? ⟨gp0, i, none⟩ = some (.int .i64 fst)) := by rw [← hw5]; exact Lib.hid (kA PC0.out _)
    clear ha1 hl1 g1 hm1 hfst pc0 o0 o1 o2
    obtain ⟨x0, x1, x2⟩ := B8.out.ld3
    go_wp2_with fail
    try rw [hw5]
    try rw [hg8]
    clear hw5 hg8 x0 x1 x2
    refine (implOramAccess_ok m1 M1.out _ i 0 b false w5 ii (by omega) rb (AggO.rd A5.out)).mono ?_
    rintro e w6 ⟨V2, F2, rfl, ha2, hl2, g2⟩
    have M2 := Lib.hid (acc_okw (write := false) (value := 0) M1.out ii (by omega) rb)
    have L2 := Lib.hid (acc_leaf (write := false) (value := 0) (leaf := b) M1.out hi)
    obtain ⟨m2, hm2⟩ : ∃ x, acc m1 (i : Int) false 0 b = x := ⟨_, rfl⟩
    rw [hm2] at ha2 M2 L2
    obtain ⟨C0, j0, t0, C1, j1, t1, C2, j2, t2, rfl⟩ := coram_oform ha2
    obtain ⟨rfl, gp2, rfl, hgp2, pc2⟩ := pos_cells ha2 M2.out
    have pc2 := pc2 i hi
    rw [L2.out] at pc2
    rw [L1.out]
    obtain ⟨g12, hg12⟩ : ∃ x, w6.heap.size = x := ⟨_, rfl⟩
    obtain ⟨w7, hw7⟩ : ∃ x : World, w6.alloc (.cells #[.slice C0 j0 t0, .slice C1 j1 t1, .slice (some ⟨gp2, 0, none⟩) 12 t2] 36) = x := ⟨_, rfl⟩
    have B12 : Hid (Blk w7 g12 36 #[.slice C0 j0 t0, .slice C1 j1 t1, .slice (some ⟨gp2, 0, none⟩) 12 t2]) := by rw [← hw7, ← hg12]; exact Lib.hid (Blk.new _ _ _)
    have G7 : Hid (w.grownBy w7 none) := by rw [← hw7]; exact Lib.hid (gbA (gbT G5.out g2) _)
    have BO7 : Hid (Blk w7 gO 36 #[.slice A0 n0 c0, .slice A1 n1 c1, .slice (some ⟨gp0, 0, none⟩) 12 c2]) := by rw [← hw7]; exact Lib.hid ((BO5.out.grow g2).grow (gbA (gbR _ _) _))
    have PC7 : Hid (w7.cell? ⟨gp0, i, none⟩ = some (.int .i64 fst)) := by rw [← hw7]; exact Lib.hid (kA (gbk g2 PC5.out) _)
    have PD7 : Hid (w7.cell? ⟨gp2, i, none⟩ = some (.int .i64 b)) := by rw [← hw7]; exact Lib.hid (kA pc2 _)
    clear ha2 hl2 g2 hm2 pc2
    go_wp2_with fail
    try rw [hw7]
    try rw [hg12]
    clear hw7 hg12
    refine (implOramPath_c a w7).mono ?_
    rintro e w8 ⟨v8, rfl, o8, g8'⟩
    have hol : (opathI a).length = 4 := by unfold opathI; rw [List.length_map]; exact opath_len ra.1 ra.2
    rw [hol] at o8
    obtain ⟨gp, cp, rfl, hcp, hgp⟩ := own_form2 o8 (by omega)
    have oc : ∀ j, j < 4 → w8.cell? ⟨gp, j, none⟩ = some (.int .i64 ((opathI a).getD j 0)) := fun j hj => by
      rw [o8.cellAt j (by omega), List.getElem?_map, List.getD_eq_getElem?_getD, List.getElem?_eq_getElem (by omega)]
      rfl
    have OC := Lib.hid oc
    have BO8 := Lib.hid (BO7.out.grow g8')
    have B128 := Lib.hid (B12.out.grow g8')
    have PC8 := Lib.hid (gbk g8' PC7.out)
    have PD8 := Lib.hid (gbk g8' PD7.out)
    have G8 := Lib.hid (gbT G7.out g8')
    clear o8 g8' oc hol
    go_wp2_with fail
    go_loopw [17] (fun q wr => ∃ j : Nat, j ≤ 3 ∧ q = .int .i64 j ∧ Hid (w8.grownBy wr none)) (fun q _ => 3 - (intOf q).toNat)
    case atStart => exact ⟨0, by omega, rfl, Lib.hid (gbR _ _)⟩
    case round =>
      obtain ⟨j, hj, rfl, hG⟩ := hrel
      by_cases hlt : j < 3
      · have y0 := gbk hG.out (OC.out j (by omega))
        have y1 := gbk hG.out (OC.out (j + 1) (by omega))
        obtain ⟨s1, s2, s3⟩ := path_step ra hlt
        obtain ⟨x, hx⟩ : ∃ x, (opathI a).getD j 0 = x := ⟨_, rfl⟩
        rw [hx] at y0 s1 s2 s3
        rw [s3] at y1
        clear s3 hx
        have i1 : (j : Int) + 1 < 4 := by omega
        have i2 : (j : Int) < 4 := by omega
        go_wp2_with fail
        go_quiet (fail)
        have G9 := Lib.hid (gbDN hG.out nq)
        go_wp2_with fail
        go_roundw
        case rel => exact ⟨j + 1, by omega, by go_num, G9⟩
        case measure => simp [intOf]; omega
      · have hj3 : j = 3 := by omega
        subst hj3
        obtain ⟨_, _, y0⟩ := (BO8.out.grow hG.out).ld3
        obtain ⟨_, _, y1⟩ := (B128.out.grow hG.out).ld3
        have y2 := gbk hG.out PC8.out
        have y3 := gbk hG.out PD8.out
        have y4 := gbk hG.out (OC.out 0 (by omega))
        rw [path_zero ra] at y4
        have i12 : (i : Int) < 12 := by omega
        have GZ := Lib.hid (gbT G8.out hG.out)
        clear hG
        go_wp2_with fail
        go_ret
        exact ⟨rfl, GZ.out⟩
end Go.Proofs.Ythncoohkdmjcaaa
/-
  The dump's head, its first three words apart from the rest: three closed facts on the whole program look at these words alone.
-/
namespace Go.Proofs.Ythncoohkdmjcaaa
set_option maxRecDepth 100000
theorem ws_word : ∀ (w r : List Char), (w.all fun c => c != Char.ofNat 32) = true → wordsSigns (w ++ Char.ofNat 32 :: r) = w :: wordsSigns r
  | [], r, _ => by rfl
  | c :: w, r, h => by
    simp only [List.all_cons, Bool.and_eq_true, bne_iff_ne] at h
    have ih := ws_word w r h.2
    have hc : ¬ c = Char.ofNat 32 := h.1
    show wordsSigns (c :: (w ++ Char.ofNat 32 :: r)) = _
    rw [wordsSigns, ih]
    exact fun e => hc e
def wHead : List Char := (List.map Char.ofNat [104, 97, 114, 110, 101, 115, 115])
def wSum : List Char := (List.map Char.ofNat [48, 97, 98, 53, 54, 99, 50, 54, 98, 99, 52, 98, 98, 53, 49, 55, 48, 54, 48, 50, 51, 97, 51, 56, 49, 48, 50, 98, 54, 98, 99, 100, 100, 55, 50, 57, 52, 57, 54, 52, 50, 53, 54, 97, 50, 52, 52, 100, 102, 54, 50, 98, 99, 97, 53, 57, 49, 53, 97, 101, 55, 50, 52, 101])
def wCut : List Char := (List.map Char.ofNat [99, 117, 116])
def wRest : List Char := (List.map Char.ofNat [97, 116, 32, 108, 111, 111, 112, 46, 101, 120, 97, 109, 112, 108, 101, 47, 103, 48, 48, 57, 55, 57, 47, 108, 97, 119, 115, 46, 70, 110, 69, 120, 97, 99, 116, 79, 114, 97, 109, 80, 97, 116, 104, 32, 108, 111, 111, 112, 46, 101, 120, 97, 109, 112, 108, 101, 47, 103, 48, 48, 57, 55, 57, 47, 108, 97, 119, 115, 46, 70, 110, 69, 120, 97, 99, 116, 79, 114, 97, 109, 83, 105, 122, 101, 115, 32, 108, 111, 111, 112, 46, 101, 120, 97, 109, 112, 108, 101, 47, 103, 48, 48, 57, 55, 57, 47, 108, 97, 119, 115, 46, 70, 110, 69, 120, 97, 99, 116, 79, 114, 97, 109, 78, 101, 119, 32, 108, 111, 111, 112, 46, 101, 120, 97, 109, 112, 108, 101, 47, 103, 48, 48, 57, 55, 57, 47, 108, 97, 119, 115, 46, 70, 110, 69, 120, 97, 99, 116, 79, 114, 97, 109, 79, 107, 32, 108, 111, 111, 112, 46, 101, 120, 97, 109, 112, 108, 101, 47, 103, 48, 48, 57, 55, 57, 47, 108, 97, 119, 115, 46, 70, 110, 69, 120, 97, 99, 116, 79, 114, 97, 109, 86, 97, 108, 117, 101, 32, 108, 111, 111, 112, 46, 101, 120, 97, 109, 112, 108, 101, 47, 103, 48, 48, 57, 55, 57, 47, 108, 97, 119, 115, 46, 70, 110, 80, 97, 116, 104, 115, 32, 108, 111, 111, 112, 46, 101, 120, 97, 109, 112, 108, 101, 47, 103, 48, 48, 57, 55, 57, 47, 108, 97, 119, 115, 46, 70, 110, 66, 108, 111, 99, 107, 115, 32, 108, 111, 111, 112, 46, 101, 120, 97, 109, 112, 108, 101, 47, 103, 48, 48, 57, 55, 57, 47, 108, 97, 119, 115, 46, 70, 110, 82, 111, 111, 109, 32, 108, 111, 111, 112, 46, 101, 120, 97, 109, 112, 108, 101, 47, 103, 48, 48, 57, 55, 57, 47, 108, 97, 119, 115, 46, 70, 110, 69, 120, 97, 99, 116, 79, 114, 97, 109, 65, 99, 99, 101, 115, 115, 32, 108, 111, 111, 112, 46, 101, 120, 97, 109, 112, 108, 101, 47, 103, 48, 48, 57, 55, 57, 47, 108, 97, 119, 115, 46, 70, 110, 77, 101, 109, 111, 114, 121, 32, 108, 111, 111, 112, 46, 101, 120, 97, 109, 112, 108, 101, 47, 103, 48, 48, 57, 55, 57, 47, 108, 97, 119, 115, 46, 70, 110, 85, 115, 101, 100, 79, 110, 99, 101, 32, 108, 111, 111, 112, 46, 101, 120, 97, 109, 112, 108, 101, 47, 103, 48, 48, 57, 55, 57, 47, 108, 97, 119, 115, 46, 70, 110, 77, 97, 106, 111, 114, 105, 116, 121, 32, 108, 111, 111, 112, 46, 101, 120, 97, 109, 112, 108, 101, 47, 103, 48, 48, 57, 55, 57, 47, 108, 97, 119, 115, 46, 70, 110, 83, 104, 97, 114, 101, 100, 66, 105, 116, 115])
theorem behind_of (h s : List Char) (r : List (List Char)) (hc : ((h == "harness".toList || h == "ownmain".toList) && isSumSigns s) = true) : behindMainWord (h :: s :: r) = r := by
  simp only [behindMainWord, hc, if_true]
theorem initIs : Try.prog.initOrder = String.ofList (wHead ++ Char.ofNat 32 :: (wSum ++ Char.ofNat 32 :: (wCut ++ Char.ofNat 32 :: wRest))) := by kernel_rfl
theorem words : ∃ X, wordsSigns Try.prog.initOrder.toList = wHead :: wSum :: wCut :: X := by
  rw [initIs, String.toList_ofList]
  refine ⟨wordsSigns wRest, ?_⟩
  rw [ws_word _ _ (by as_aux_lemma => kernel_rfl), ws_word _ _ (by as_aux_lemma => kernel_rfl), ws_word _ _ (by as_aux_lemma => kernel_rfl)]
theorem behind : ∃ X, behindMainWord (wordsSigns Try.prog.initOrder.toList) = wCut :: X := by
  obtain ⟨X, h⟩ := words
  refine ⟨X, ?_⟩
  rw [h]
  exact behind_of _ _ _ (by as_aux_lemma => kernel_rfl)
theorem strip (X : List (List Char)) : stripLifts liftWords (wCut :: X) = ([], wCut :: X) := by
  have hc : ∀ o ∈ liftWords, (wCut == o.toList) = false := by as_aux_lemma => exact of_decide_eq_true (by kernel_rfl)
  generalize wCut = c at hc
  generalize liftWords = l at hc
  induction l with
  | nil => rfl
  | cons o os ih =>
    rw [stripLifts, if_neg (by rw [hc o (List.mem_cons_self ..)]; simp)]
    exact ih fun o' ho' => hc o' (List.mem_cons_of_mem _ ho')
theorem c_gc : (wCut == "gc".toList) = false := by as_aux_lemma => kernel_rfl
theorem c_spec : (wCut == "spec".toList) = false := by as_aux_lemma => kernel_rfl
theorem c_carried : (wCut == "carried".toList) = false := by as_aux_lemma => kernel_rfl
theorem c_finals : (wCut == "finals".toList) = false := by as_aux_lemma => kernel_rfl
theorem c_cut : (wCut == "cut".toList) = true := by as_aux_lemma => kernel_rfl
theorem later : Try.prog.laysLater = false := by as_aux_lemma => kernel_rfl
theorem noReflect : Try.prog.bearsReflect = false := by as_aux_lemma => kernel_rfl
theorem door : Try.prog.doorFits [] = true := by as_aux_lemma => kernel_rfl
theorem mayEnter_of {P : Program} {c : List Char} {X : List (List Char)} (h : behindMainWord (wordsSigns P.initOrder.toList) = c :: X) (hs : stripLifts liftWords (c :: X) = ([], c :: X))
    (h1 : (c == "gc".toList) = false) (h2 : (c == "spec".toList) = false) (h3 : (c == "carried".toList) = false) (h4 : (c == "cut".toList) = true) (l : P.laysLater = false) (r : P.bearsReflect = false) (d : P.doorFits [] = true) : P.mayEnter = true := by
  unfold Program.mayEnter
  rw [h]
  simp only [hs, h1, h2, h3, h4, l, r, d, List.head?_cons, Option.some_beq_some, Bool.false_and, Bool.or_false, Bool.not_false, Bool.or_true, Bool.and_true, List.contains_nil]
theorem mayEnter : Try.prog.mayEnter = true := by
  obtain ⟨X, h⟩ := behind
  exact mayEnter_of h (strip X) c_gc c_spec c_carried c_cut later noReflect door
theorem lifts_of {P : Program} {c : List Char} {X : List (List Char)} (h : behindMainWord (wordsSigns P.initOrder.toList) = c :: X) (hs : stripLifts liftWords (c :: X) = ([], c :: X)) : P.headLifts = [] := by
  unfold Program.headLifts
  rw [h, hs]
  show (if ((([] : List String), c :: X).2.head? == some "cut".toList) = true then [] else []) = []
  split <;> rfl
theorem final_of {P : Program} {c : List Char} {X : List (List Char)} (h : behindMainWord (wordsSigns P.initOrder.toList) = c :: X) (hs : stripLifts liftWords (c :: X) = ([], c :: X)) (h3 : (c == "carried".toList) = false) : P.liftsFinal = false := by
  unfold Program.liftsFinal
  rw [lifts_of h hs, h]
  simp only [List.head?_cons, Option.some_beq_some, h3, Bool.false_and, Bool.false_or, List.contains_nil]
theorem liftsFinal : Try.prog.liftsFinal = false := by
  obtain ⟨X, h⟩ := behind
  exact final_of h (strip X) c_carried
theorem make_of {P : Program} {c : List Char} {X : List (List Char)} (h : behindMainWord (wordsSigns P.initOrder.toList) = c :: X) 
    (h1 : (c == "gc".toList) = false) (h2 : (c == "spec".toList) = false) (h4 : (c == "cut".toList) = true) : P.make = some .cut := by
  unfold Program.make
  rw [h]
  simp only [h1, h2, h4, Bool.false_or, Bool.true_or, if_true, Bool.false_eq_true, if_false]
theorem make : Try.prog.make = some .cut := by
  obtain ⟨X, h⟩ := behind
  exact make_of h c_gc c_spec c_cut
end Go.Proofs.Ythncoohkdmjcaaa
/-
  Opening a law's arguments: from the form's reading to what the walks ask.
-/
namespace Go.Proofs.Ythncoohkdmjcaaa
open Go.ChangeShapes Go.WideShapes Go.ChangeAt Go.RowKit Go.Joins

theorem own : ownKnob Try.prog.godebug = none := by kernel_rfl
theorem laidOut : laidOutB Try.prog = true := by kernel_rfl

section
variable {H : Type} {enc : TypeId × Value → H} {P : Program} {w : World} {base : Nat} {spare : Nat → Bool} {held : Bool}
theorem tI {t : TypeId} {k : IntKind} {m : Nat} {v : Value} {y : DataW H × List MemPlace} (ht : P.underlying t = some (.int k)) (h : DataW.trod enc P w base spare held m t [v] = some y) : ∃ n, v = .int k n ∧ (Lit.int k n).wf = true := by
  obtain ⟨n, h1, _, hw⟩ := DataW.trod_int ht h
  simp at h1
  exact ⟨n, h1, hw⟩
theorem tB {t : TypeId} {m : Nat} {v : Value} {y : DataW H × List MemPlace} (ht : P.underlying t = some .bool) (h : DataW.trod enc P w base spare held m t [v] = some y) : ∃ b, v = .bool b := by
  obtain ⟨n, h1, _⟩ := DataW.trod_bool ht h
  simp at h1
  exact ⟨n, h1⟩
theorem tS {t e : TypeId} {k : IntKind} {m : Nat} {v : Value} {y : DataW H × List MemPlace} (ht : P.underlying t = some (.slice e)) (he : P.underlying e = some (.int k)) (hc : P.cellsOf e = 1)
    (h : DataW.trod enc P w base spare held m t [v] = some y) : ∃ A n c zs, v = .slice A n c ∧ IntsK k w A n zs ∧ n ≤ maxLen := by
  rcases open_ints ht he hc h with ⟨hcs, _⟩ | ⟨a, l, c, zs, hcs, _, hl, hm, hz, _, hcell, hwz⟩
  · simp at hcs
    exact ⟨none, 0, 0, [], hcs, ⟨⟨by simp, fun h => absurd h (by omega)⟩, by simp⟩, by simp⟩
  · simp at hcs
    have hlz : l ≤ zs.length := by rw [hz]; split <;> omega
    refine ⟨some a, l, c, zs.take l, hcs, ⟨⟨by simp; omega, fun hp => ?_⟩, fun z hz' => hwz z (List.mem_of_mem_take hz')⟩, by omega⟩
    obtain ⟨b, o, s⟩ := a
    have h0 := hcell 0 (by omega)
    have hs : s = none := by simpa [Addr.add] using World.cell?_spot h0
    subst hs
    refine ⟨b, o, rfl, World.block_lt_of_cell? w _ h0, fun j hj => ?_⟩
    have hj' := hcell j (by omega)
    have hadd : (⟨b, o, none⟩ : Addr).add j = ⟨b, o + j, none⟩ := by unfold Addr.add; split <;> simp_all
    rw [hadd] at hj'
    rw [hj', List.getElem?_map, List.getElem?_take, if_pos (by omega), List.getElem?_eq_getElem (show j < zs.length by omega)]
    simp [List.getD_eq_getElem?_getD, List.getElem?_eq_getElem (show j < zs.length by omega)]
end
theorem andT {a b : Bool} (ha : a = true) (hb : b = true) : (a && b) = true := by rw [ha, hb]; rfl
theorem lF {b : Bool} (h : b = false) : (b == Try.prog.liftsFinal) = true := by rw [liftsFinal, h]; rfl
theorem mK {m : Make} (h : m = .cut) : (Try.prog.make == some m) = true := by rw [make, h]; rfl
theorem gbEnd {a b : World} (h : a.grownBy b none) : Below a.heap.size a b := gbBelow h
end Go.Proofs.Ythncoohkdmjcaaa
