/-
  FnEngine: the walk.
-/
import Derived.Test.YtapljpcpmdlppaaMgFnEngine44
import Derived.Test.YtapljpcpmdlppaaMgFnEngine45
import Derived.Test.YtapljpcpmdlppaaChecked
import Derived.KernelRfl
import GoSem.ClaimJoined
import Derived.Test.YtapljpcpmdlppaaRows
import Derived.Test.YtapljpcpmdlppaaMgFnEngine0
import Derived.ProofKit
import Derived.OpenShut
import Derived.Lib.SmallJoins
import Derived.ChangeOld
namespace Go.Proofs.Ytapljpcpmdlppaa
open Go.RowKit
set_option linter.unusedVariables false
set_option linter.unusedSimpArgs false
theorem newB_yes2 {k : KM} {c : AM} {P s a : Nat} {ins : List Int} (hf : Fit k c P ins) (hs : s < 4294967296) (ha : a ≤ 900000) : newB k c ins s a = true := by
  unfold newB
  rw [hf.kb, arithB_yes hf.ok, hf.el, hf.len, hf.pp]
  have := tape_yes hs (show a ≤ 1000000 by omega)
  simp [this]
  omega
theorem AOk.wf9 {m : AM} (h : AOk m) : m.wf := by
  obtain ⟨hp1, hp2⟩ := field_range h.fld
  refine ⟨⟨by omega, by omega⟩, fun z hz => ?_, fun z hz => ?_⟩
  · obtain ⟨j, hj⟩ := List.mem_iff_getElem?.1 hz
    have hlt := (List.getElem?_eq_some_iff.1 hj).1
    have hs := h.steps j hlt
    have he : stAt m j = z := by unfold stAt; rw [List.getD_eq_getElem?_getD, hj]; rfl
    rw [he] at hs
    have hl := h.few
    obtain ⟨x, y, u⟩ := z
    simp only [stepB] at hs
    unfold w3 i64w
    simp only
    split at hs
    · simp [inB] at hs; omega
    · split at hs
      · have := elemB_is (p := m.p) (a := y) (by simp at hs; exact hs.1)
        simp at hs
        omega
      · split at hs
        · simp [inB] at hs; omega
        · cases hs
  · have hs := h.outs z hz
    have hl := h.few
    simp [inB] at hs
    unfold i64w
    omega
theorem amwf_of {m : AM} (h : AOk m) (ho : m.outs.length ≤ 3) : amwf m := ⟨AOk.wf9 h, by have := h.few; omega, by omega⟩
theorem kwf_of {k : KM} (h : keysB k = true) : kwf k := by
  obtain ⟨hf, _, h1, h5⟩ := keys_is h
  have := field_range hf
  refine ⟨?_, by omega⟩
  unfold i64w
  omega
theorem elems_nil {p : Int} (h : fieldB p = true) : elemsB p [] = true := elemsB_mk h (by simp)
set_option maxHeartbeats 4000000 in
set_option maxRecDepth 100000 in
theorem FnEngine.walk (w : World) (A : Option Addr) (n c : Nat) (zs : List Int) (hz : IntsK .u8 w A n zs) (hm : n ≤ maxLen) :
    Calls Try.prog 17 #[.slice A n c] w fun e w' => e = .returned (.bool true) ∧ w.grownBy w' none := by
  unfold maxLen at hm
  by_cases hbig : 1048576 < n
  · have hd : decide (1048576 < n) = true := by simp; omega
    go_enter Try.func17, Try.ntmps17
    go_wp2_with fail
    refine (big_c _ A n c (by omega)).mono ?_
    rintro e w1 ⟨rfl, rfl⟩
    go_wp2_with fail
    go_ret
    exact ⟨rfl, gbR _ _⟩
  · have hd : decide (1048576 < n) = false := by simp; omega
    have H := Lib.hid (bytesIn hz (by omega))
    clear hz
    go_enter Try.func17, Try.ntmps17
    go_wp2_with fail
    refine (big_c _ A n c (by omega)).mono ?_
    rintro e w1 ⟨rfl, rfl⟩
    rw [hd]
    clear hd hbig hm
    go_wp2_with fail
    refine (DrawComputation_c _ A n c zs H.out).mono ?_
    rintro e w1 ⟨KA, A1, A2, I, kc, n1, s1, n2, s2, ci, k, m, ins, P, s, a, rfl, hf, hp, hst, hou, hs, ha, hk, hc, hi, hci, hg⟩
    have HF := Lib.hid hf
    have HK := Lib.hid hk
    have HC := Lib.hid hc
    have HI := Lib.hid hi
    have G1 := Lib.hid hg
    have WF := Lib.hid (AOk.wf9 hf.ok)
    clear hf hp hst hk hc hi hg
    obtain ⟨wu, hwu⟩ : ∃ x : World, ((w1.alloc (.cells #[.int .i64 k.p, .slice KA k.al.length kc] 65)).alloc (.cells #[.int .i64 m.p, .slice A1 n1 s1, .slice A2 n2 s2] 30)).alloc (.cells #[.int .i64 s, .int .i64 a] 75) = x := ⟨_, rfl⟩
    have GU : Hid (w1.grownBy wu none) := by rw [← hwu]; exact Lib.hid (gbA (gbA (gbA (gbR _ _) _) _) _)
    have B3 : Hid (Blk wu w1.heap.size 65 #[.int .i64 k.p, .slice KA k.al.length kc]) := by rw [← hwu]; exact Lib.hid (((Blk.new w1 _ _).grow (gbA (gbR _ _) _)).grow (gbA (gbR _ _) _))
    have B4 : Hid (Blk wu (w1.heap.size + 1) 30 #[.int .i64 m.p, .slice A1 n1 s1, .slice A2 n2 s2]) := by rw [← hwu]; exact Lib.hid ((Blk.new' _ _ _ _ (by simp)).grow (gbA (gbR _ _) _))
    have B6 : Hid (Blk wu (w1.heap.size + 1 + 1) 75 #[.int .i64 s, .int .i64 a]) := by rw [← hwu]; exact Lib.hid (Blk.new' _ _ _ _ (by simp))
    have k0 := B3.out.cell 0
    have k1 := B3.out.cell 1
    have x0 := B4.out.cell 0
    have x1 := B4.out.cell 1
    have x2 := B4.out.cell 2
    have y0 := B6.out.cell 0
    have y1 := B6.out.cell 1
    simp only [List.getElem?_toArray, List.getElem?_cons_succ, List.getElem?_cons_zero] at k0 k1 x0 x1 x2 y0 y1
    go_wp2_with fail
    clear hwu k0 k1 x0 x1 x2 y0 y1
    refine (specEvalArith_c m _ I 60 ci ins wu (HC.out.grow GU.out) WF.out (HI.out.grow GU.out) (by omega) (by omega)).mono ?_
    rintro e w3 ⟨V3, rfl, o3, g3⟩
    have hev : EvOk m ins := ⟨HF.out.ok, HF.out.len, HF.out.el⟩
    rw [evB_yes hev]
    obtain ⟨xs, hxs⟩ : ∃ l, evR m ins = l := ⟨_, rfl⟩
    have hxl : xs.length ≤ 3 := by rw [← hxs]; have := evR_len m ins; omega
    have HXS := Lib.hid hxs
    rw [hxs] at o3
    obtain ⟨V, cV, rfl, _, _⟩ := own_form o3
    have I3 := Lib.hid (show Ints w3 V xs.length xs from Rd.ofOwn o3)
    have G3 := Lib.hid (gbT GU.out g3)
    have C3 := Lib.hid (B3.out.grow g3)
    have C4 := Lib.hid (B4.out.grow g3)
    have C6 := Lib.hid (B6.out.grow g3)
    have k0 := C3.out.cell 0
    have k1 := C3.out.cell 1
    have x0 := C4.out.cell 0
    have x1 := C4.out.cell 1
    have x2 := C4.out.cell 2
    have y0 := C6.out.cell 0
    have y1 := C6.out.cell 1
    simp only [List.getElem?_toArray, List.getElem?_cons_succ, List.getElem?_cons_zero] at k0 k1 x0 x1 x2 y0 y1
    have k0' := fun o => kA k0 o
    have k1' := fun o => kA k1 o
    have x0' := fun o => kA x0 o
    have x1' := fun o => kA x1 o
    have x2' := fun o => kA x2 o
    have y0' := fun o => kA y0 o
    have y1' := fun o => kA y1 o
    clear o3 g3 hxs hev B3 B4 B6
    go_wp2_with fail
    clear k0 k1 x0 x1 x2 y0 y1 k0' k1' x0' x1' x2' y0' y1'
    have hel := elems_nil (HF.out.fld)
    obtain ⟨hr1, hr2⟩ := run_right (s := s) HF.out hel (fun i _ => by simp [errAt])
    have HR1 := Lib.hid hr1
    have HR2 := Lib.hid hr2
    clear hr1 hr2
    have hgl3 : w3.grownBy (w3.alloc (.cells #[] 3)) none := gbA (gbR _ _) _
    obtain ⟨w4, hw4⟩ : ∃ x : World, w3.alloc (.cells #[] 3) = x := ⟨_, rfl⟩
    rw [hw4] at hgl3
    rw [hw4]
    have G4 := Lib.hid (gbT G3.out hgl3)
    have D3 := Lib.hid (C3.out.grow hgl3)
    have D4 := Lib.hid (C4.out.grow hgl3)
    have D6 := Lib.hid (C6.out.grow hgl3)
    have I4 := Lib.hid (I3.out.grow hgl3)
    clear hw4 hgl3 C3 C4 C6 I3
    refine (implEngineRun_yes k m P s a I (some ⟨w3.heap.size, 0, none⟩) ci 0 0 ins [] _ _ w4 (HK.out.grow G4.out) (HC.out.grow G4.out) (HI.out.grow G4.out) Ints.none' (kwf_of HF.out.kb) (amwf_of HF.out.ok hou) HF.out hel hs (by omega) (by omega) (by omega)).mono ?_
    rintro e w5 ⟨V5, rfl, o5, g5⟩
    rw [HR1.out]
    rw [HR2.out, HXS.out] at o5
    obtain ⟨V', cV', rfl, _, _⟩ := own_form o5
    have I5 := Lib.hid (show Ints w5 V' xs.length xs from Rd.ofOwn o5)
    have I45 := Lib.hid (I4.out.grow g5)
    have G5 := Lib.hid (gbT G4.out g5)
    have E3 := Lib.hid (D3.out.grow g5)
    have E4 := Lib.hid (D4.out.grow g5)
    have E6 := Lib.hid (D6.out.grow g5)
    have k0 := E3.out.cell 0
    have k1 := E3.out.cell 1
    have x0 := E4.out.cell 0
    have x1 := E4.out.cell 1
    have x2 := E4.out.cell 2
    have y0 := E6.out.cell 0
    have y1 := E6.out.cell 1
    simp only [List.getElem?_toArray, List.getElem?_cons_succ, List.getElem?_cons_zero] at k0 k1 x0 x1 x2 y0 y1
    clear o5 g5 D3 D4 D6 I4 hel
    go_wp2_with fail
    clear k0 k1 x0 x1 x2 y0 y1
    refine (implEngineNew_yes k m P s a I ci ins _ _ w5 (HK.out.grow G5.out) (HC.out.grow G5.out) (HI.out.grow G5.out) (kwf_of HF.out.kb) (amwf_of HF.out.ok hou) HF.out.pn (newB_yes2 HF.out hs (by omega))).mono ?_
    rintro e w6 ⟨v6, rfl, o6, g6⟩
    obtain ⟨e0, he0⟩ : ∃ x, engNew k m P s ins = x := ⟨_, rfl⟩
    have hat : At (PF k) k m 0 e0 := by rw [← he0]; exact engAt_zero (s1 := s) (s2 := s) (es := []) HF.out PF.pc fun i a h => Good.form h
    have OKB := Lib.hid (hat.okB HF.out (fun i a h => h) (by have := rounds_bd m; omega))
    have HRD := Lib.hid hat.rd
    have WE := Lib.hid (show ewf e0 by rw [← he0]; exact ewf_new HF.out (kwf_of HF.out.kb) (amwf_of HF.out.ok hou))
    rw [he0] at o6
    obtain ⟨QA, QB, QC, QD, QE, qa, qb, qc, qd, qe, rfl⟩ := o6.eng
    obtain ⟨F6, o6, _⟩ := o6
    have AG := Lib.hid o6.rd
    have I6 := Lib.hid (I5.out.grow g6)
    have I46 := Lib.hid (I45.out.grow g6)
    have G6 := Lib.hid (gbT G5.out g6)
    clear o6 g6 hat he0 E3 E4 E6 I5 I45
    obtain ⟨w7, hw7⟩ : ∃ x : World, w6.alloc (.cells #[.int .i64 e0.k.p, .slice QA e0.k.al.length qa, .int .i64 e0.c.p, .slice QB e0.c.st.length qb, .slice QC e0.c.outs.length qc, .slice QD e0.vs.length qd, .slice QE e0.op.length qe, .int .i64 e0.rd, .bool e0.bad] 68) = x := ⟨_, rfl⟩
    have B11 : Hid (Blk w7 w6.heap.size 68 #[.int .i64 e0.k.p, .slice QA e0.k.al.length qa, .int .i64 e0.c.p, .slice QB e0.c.st.length qb, .slice QC e0.c.outs.length qc, .slice QD e0.vs.length qd, .slice QE e0.op.length qe, .int .i64 e0.rd, .bool e0.bad]) := by rw [← hw7]; exact Lib.hid (Blk.new _ _ _)
    have hg7 : w6.grownBy w7 none := by rw [← hw7]; exact gbA (gbR _ _) _
    have I7 := Lib.hid (I6.out.grow hg7)
    have I47 := Lib.hid (I46.out.grow hg7)
    have AG7 := Lib.hid (AG.out.grow hg7)
    have G7 := Lib.hid (gbT G6.out hg7)
    clear hg7
    go_wp2_with fail
    try rw [hw7]
    clear hw7
    refine (sameInts_c V V' xs.length xs.length cV cV' xs xs w7 I47.out I7.out (by omega) (by omega)).mono ?_
    rintro e w8 ⟨rfl, q, rfl⟩
    have hxx : (xs == xs) = true := by simp
    rw [hxx]
    have hg8 := gbDN (gbR w7 none) q
    have B8 := B11.out.grow hg8
    have AG8 := Lib.hid (AG7.out.grow hg8)
    have G8 := Lib.hid (gbT G7.out hg8)
    obtain ⟨w8, hw8⟩ : ∃ x, w7.drewN q = x := ⟨_, rfl⟩
    rw [hw8] at B8 AG8 G8 ⊢
    have z0 := B8.cell 0
    have z1 := B8.cell 1
    have z2 := B8.cell 2
    have z3 := B8.cell 3
    have z4 := B8.cell 4
    have z5 := B8.cell 5
    have z6 := B8.cell 6
    have z7 := B8.cell 7
    have z8 := B8.cell 8
    simp only [List.getElem?_toArray, List.getElem?_cons_succ, List.getElem?_cons_zero] at z0 z1 z2 z3 z4 z5 z6 z7 z8
    have B8 := Lib.hid B8
    clear hg8 hw8 hxx
    go_wp2_with fail
    clear z0 z1 z2 z3 z4 z5 z6 z7 z8
    refine (implEngineOk_c e0 _ w8 AG8.out WE.out).mono ?_
    rintro e w9 ⟨rfl, g9⟩
    rw [OKB.out]
    have z7 := (B8.out.grow g9).cell 7
    simp only [List.getElem?_toArray, List.getElem?_cons_succ, List.getElem?_cons_zero] at z7
    rw [HRD.out] at z7
    have G9 := Lib.hid (gbT G1.out (gbT G8.out g9))
    clear g9
    go_wp2_with fail
    go_ret
    exact ⟨rfl, G9.out⟩
end Go.Proofs.Ytapljpcpmdlppaa
/-
  The dump's head, its first three words apart from the rest: three closed facts on the whole program look at these words alone.
-/
namespace Go.Proofs.Ytapljpcpmdlppaa
set_option maxRecDepth 100000
theorem ws_word : ∀ (w r : List Char), (w.all fun c => c != Char.ofNat 32) = true → wordsSigns (w ++ Char.ofNat 32 :: r) = w :: wordsSigns r
  | [], r, _ => by rfl
  | c :: w, r, h => by
    simp only [List.all_cons, Bool.and_eq_true, bne_iff_ne] at h
    have ih := ws_word w r h.2
    have hc : ¬ c = Char.ofNat 32 := h.1
    show wordsSigns (c :: (w ++ Char.ofNat 32 :: r)) = _
    rw [wordsSigns, ih]
    exact fun e => hc e
def wHead : List Char := (List.map Char.ofNat [104, 97, 114, 110, 101, 115, 115])
def wSum : List Char := (List.map Char.ofNat [48, 100, 52, 48, 48, 48, 100, 49, 101, 56, 97, 97, 52, 48, 48, 51, 57, 102, 100, 49, 55, 52, 99, 100, 55, 56, 56, 102, 57, 57, 49, 50, 48, 52, 49, 53, 101, 49, 100, 97, 99, 56, 50, 53, 55, 52, 56, 51, 56, 53, 53, 57, 56, 55, 99, 51, 53, 48, 101, 57, 98, 99, 97, 55])
def wCut : List Char := (List.map Char.ofNat [99, 117, 116])
def wRest : List Char := (List.map Char.ofNat [97, 116, 32, 108, 111, 111, 112, 46, 101, 120, 97, 109, 112, 108, 101, 47, 103, 48, 48, 57, 55, 57, 47, 108, 97, 119, 115, 46, 70, 110, 69, 120, 97, 99, 116, 67, 111, 117, 110, 116, 77, 117, 108, 115, 32, 108, 111, 111, 112, 46, 101, 120, 97, 109, 112, 108, 101, 47, 103, 48, 48, 57, 55, 57, 47, 108, 97, 119, 115, 46, 70, 110, 78, 111, 77, 117, 108, 115, 32, 108, 111, 111, 112, 46, 101, 120, 97, 109, 112, 108, 101, 47, 103, 48, 48, 57, 55, 57, 47, 108, 97, 119, 115, 46, 70, 110, 69, 120, 97, 99, 116, 85, 115, 101, 100, 69, 114, 114, 111, 114, 115, 32, 108, 111, 111, 112, 46, 101, 120, 97, 109, 112, 108, 101, 47, 103, 48, 48, 57, 55, 57, 47, 108, 97, 119, 115, 46, 70, 110, 69, 120, 97, 99, 116, 65, 114, 105, 116, 104, 79, 107, 32, 108, 111, 111, 112, 46, 101, 120, 97, 109, 112, 108, 101, 47, 103, 48, 48, 57, 55, 57, 47, 108, 97, 119, 115, 46, 70, 110, 69, 120, 97, 99, 116, 82, 111, 117, 110, 100, 115, 79, 102, 32, 108, 111, 111, 112, 46, 101, 120, 97, 109, 112, 108, 101, 47, 103, 48, 48, 57, 55, 57, 47, 108, 97, 119, 115, 46, 70, 110, 69, 120, 97, 99, 116, 77, 117, 108, 68, 101, 112, 116, 104, 32, 108, 111, 111, 112, 46, 101, 120, 97, 109, 112, 108, 101, 47, 103, 48, 48, 57, 55, 57, 47, 108, 97, 119, 115, 46, 70, 110, 69, 120, 97, 99, 116, 77, 117, 108, 115, 65, 116, 32, 108, 111, 111, 112, 46, 101, 120, 97, 109, 112, 108, 101, 47, 103, 48, 48, 57, 55, 57, 47, 108, 97, 119, 115, 46, 70, 110, 69, 120, 97, 99, 116, 65, 114, 105, 116, 104, 67, 111, 115, 116, 32, 108, 111, 111, 112, 46, 101, 120, 97, 109, 112, 108, 101, 47, 103, 48, 48, 57, 55, 57, 47, 108, 97, 119, 115, 46, 70, 110, 65, 114, 105, 116, 104, 109, 101, 116, 105, 99, 115, 32, 108, 111, 111, 112, 46, 101, 120, 97, 109, 112, 108, 101, 47, 103, 48, 48, 57, 55, 57, 47, 108, 97, 119, 115, 46, 70, 110, 69, 120, 97, 99, 116, 69, 118, 97, 108, 65, 114, 105, 116, 104, 32, 108, 111, 111, 112, 46, 101, 120, 97, 109, 112, 108, 101, 47, 103, 48, 48, 57, 55, 57, 47, 108, 97, 119, 115, 46, 70, 110, 69, 120, 97, 99, 116, 69, 110, 103, 105, 110, 101, 79, 107, 32, 108, 111, 111, 112, 46, 101, 120, 97, 109, 112, 108, 101, 47, 103, 48, 48, 57, 55, 57, 47, 108, 97, 119, 115, 46, 70, 110, 69, 120, 97, 99, 116, 69, 110, 103, 105, 110, 101, 79, 117, 116, 112, 117, 116, 115, 32, 108, 111, 111, 112, 46, 101, 120, 97, 109, 112, 108, 101, 47, 103, 48, 48, 57, 55, 57, 47, 108, 97, 119, 115, 46, 70, 110, 67, 111, 115, 116, 115, 32, 108, 111, 111, 112, 46, 101, 120, 97, 109, 112, 108, 101, 47, 103, 48, 48, 57, 55, 57, 47, 108, 97, 119, 115, 46, 70, 110, 79, 116, 104, 101, 114, 84, 97, 112, 101, 115, 32, 108, 111, 111, 112, 46, 101, 120, 97, 109, 112, 108, 101, 47, 103, 48, 48, 57, 55, 57, 47, 108, 97, 119, 115, 46, 70, 110, 69, 110, 103, 105, 110, 101, 32, 108, 111, 111, 112, 46, 101, 120, 97, 109, 112, 108, 101, 47, 103, 48, 48, 57, 55, 57, 47, 108, 97, 119, 115, 46, 70, 110, 82, 111, 117, 110, 100, 115, 32, 108, 111, 111, 112, 46, 101, 120, 97, 109, 112, 108, 101, 47, 103, 48, 48, 57, 55, 57, 47, 108, 97, 119, 115, 46, 70, 110, 69, 120, 97, 99, 116, 69, 110, 103, 105, 110, 101, 78, 101, 119, 32, 108, 111, 111, 112, 46, 101, 120, 97, 109, 112, 108, 101, 47, 103, 48, 48, 57, 55, 57, 47, 108, 97, 119, 115, 46, 70, 110, 67, 104, 101, 97, 116, 101, 100])
theorem behind_of (h s : List Char) (r : List (List Char)) (hc : ((h == "harness".toList || h == "ownmain".toList) && isSumSigns s) = true) : behindMainWord (h :: s :: r) = r := by
  simp only [behindMainWord, hc, if_true]
theorem initIs : Try.prog.initOrder = String.ofList (wHead ++ Char.ofNat 32 :: (wSum ++ Char.ofNat 32 :: (wCut ++ Char.ofNat 32 :: wRest))) := by kernel_rfl
theorem words : ∃ X, wordsSigns Try.prog.initOrder.toList = wHead :: wSum :: wCut :: X := by
  rw [initIs, String.toList_ofList]
  refine ⟨wordsSigns wRest, ?_⟩
  rw [ws_word _ _ (by as_aux_lemma => kernel_rfl), ws_word _ _ (by as_aux_lemma => kernel_rfl), ws_word _ _ (by as_aux_lemma => kernel_rfl)]
theorem behind : ∃ X, behindMainWord (wordsSigns Try.prog.initOrder.toList) = wCut :: X := by
  obtain ⟨X, h⟩ := words
  refine ⟨X, ?_⟩
  rw [h]
  exact behind_of _ _ _ (by as_aux_lemma => kernel_rfl)
theorem strip (X : List (List Char)) : stripLifts liftWords (wCut :: X) = ([], wCut :: X) := by
  have hc : ∀ o ∈ liftWords, (wCut == o.toList) = false := by as_aux_lemma => exact of_decide_eq_true (by kernel_rfl)
  generalize wCut = c at hc
  generalize liftWords = l at hc
  induction l with
  | nil => rfl
  | cons o os ih =>
    rw [stripLifts, if_neg (by rw [hc o (List.mem_cons_self ..)]; simp)]
    exact ih fun o' ho' => hc o' (List.mem_cons_of_mem _ ho')
theorem c_gc : (wCut == "gc".toList) = false := by as_aux_lemma => kernel_rfl
theorem c_spec : (wCut == "spec".toList) = false := by as_aux_lemma => kernel_rfl
theorem c_carried : (wCut == "carried".toList) = false := by as_aux_lemma => kernel_rfl
theorem c_cut : (wCut == "cut".toList) = true := by as_aux_lemma => kernel_rfl
theorem later : Try.prog.laysLater = false := by as_aux_lemma => kernel_rfl
theorem noReflect : Try.prog.bearsReflect = false := by as_aux_lemma => kernel_rfl
theorem door : Try.prog.doorFits [] = true := by as_aux_lemma => kernel_rfl
theorem mayEnter_of {P : Program} {c : List Char} {X : List (List Char)} (h : behindMainWord (wordsSigns P.initOrder.toList) = c :: X) (hs : stripLifts liftWords (c :: X) = ([], c :: X))
    (h1 : (c == "gc".toList) = false) (h2 : (c == "spec".toList) = false) (h3 : (c == "carried".toList) = false) (h4 : (c == "cut".toList) = true) (l : P.laysLater = false) (r : P.bearsReflect = false) (d : P.doorFits [] = true) : P.mayEnter = true := by
  unfold Program.mayEnter
  rw [h]
  simp only [hs, h1, h2, h3, h4, l, r, d, List.head?_cons, Option.some_beq_some, Bool.false_and, Bool.or_false, Bool.not_false, Bool.or_true, Bool.and_true, List.contains_nil]
theorem mayEnter : Try.prog.mayEnter = true := by
  obtain ⟨X, h⟩ := behind
  exact mayEnter_of h (strip X) c_gc c_spec c_carried c_cut later noReflect door
theorem lifts_of {P : Program} {c : List Char} {X : List (List Char)} (h : behindMainWord (wordsSigns P.initOrder.toList) = c :: X) (hs : stripLifts liftWords (c :: X) = ([], c :: X)) : P.headLifts = [] := by
  unfold Program.headLifts
  rw [h, hs]
  show (if ((([] : List String), c :: X).2.head? == some "cut".toList) = true then [] else []) = []
  split <;> rfl
theorem final_of {P : Program} {c : List Char} {X : List (List Char)} (h : behindMainWord (wordsSigns P.initOrder.toList) = c :: X) (hs : stripLifts liftWords (c :: X) = ([], c :: X)) (h3 : (c == "carried".toList) = false) : P.liftsFinal = false := by
  unfold Program.liftsFinal
  rw [lifts_of h hs, h]
  simp only [List.head?_cons, Option.some_beq_some, h3, Bool.false_and, Bool.false_or, List.contains_nil]
theorem liftsFinal : Try.prog.liftsFinal = false := by
  obtain ⟨X, h⟩ := behind
  exact final_of h (strip X) c_carried
theorem make_of {P : Program} {c : List Char} {X : List (List Char)} (h : behindMainWord (wordsSigns P.initOrder.toList) = c :: X)
    (h1 : (c == "gc".toList) = false) (h2 : (c == "spec".toList) = false) (h4 : (c == "cut".toList) = true) : P.make = some .cut := by
  unfold Program.make
  rw [h]
  simp only [h1, h2, h4, Bool.false_or, Bool.true_or, if_true, Bool.false_eq_true, if_false]
theorem make : Try.prog.make = some .cut := by
  obtain ⟨X, h⟩ := behind
  exact make_of h c_gc c_spec c_cut
end Go.Proofs.Ytapljpcpmdlppaa
/-
  Opening a law's arguments: from the form's reading to what the walks ask.
-/
namespace Go.Proofs.Ytapljpcpmdlppaa
open Go.ChangeShapes Go.WideShapes Go.ChangeAt Go.RowKit Go.Joins
theorem own : ownKnob Try.prog.godebug = none := by kernel_rfl
theorem laidOut : laidOutB Try.prog = true := by kernel_rfl
section
variable {H : Type} {enc : TypeId × Value → H} {P : Program} {w : World} {base : Nat} {spare : Nat → Bool} {held : Bool}
theorem tS {t e : TypeId} {k : IntKind} {m : Nat} {v : Value} {y : DataW H × List MemPlace} (ht : P.underlying t = some (.slice e)) (he : P.underlying e = some (.int k)) (hc : P.cellsOf e = 1)
    (h : DataW.trod enc P w base spare held m t [v] = some y) : ∃ A n c zs, v = .slice A n c ∧ IntsK k w A n zs ∧ n ≤ maxLen := by
  rcases open_ints ht he hc h with ⟨hcs, _⟩ | ⟨a, l, c, zs, hcs, _, hl, hm, hz, _, hcell, hwz⟩
  · simp at hcs
    exact ⟨none, 0, 0, [], hcs, ⟨⟨by simp, fun h => absurd h (by omega)⟩, by simp⟩, by simp⟩
  · simp at hcs
    have hlz : l ≤ zs.length := by rw [hz]; split <;> omega
    refine ⟨some a, l, c, zs.take l, hcs, ⟨⟨by simp; omega, fun hp => ?_⟩, fun z hz' => hwz z (List.mem_of_mem_take hz')⟩, by omega⟩
    obtain ⟨b, o, s⟩ := a
    have h0 := hcell 0 (by omega)
    have hs : s = none := by simpa [Addr.add] using World.cell?_spot h0
    subst hs
    refine ⟨b, o, rfl, World.block_lt_of_cell? w _ h0, fun j hj => ?_⟩
    have hj' := hcell j (by omega)
    have hadd : (⟨b, o, none⟩ : Addr).add j = ⟨b, o + j, none⟩ := by unfold Addr.add; split <;> simp_all
    rw [hadd] at hj'
    rw [hj', List.getElem?_map, List.getElem?_take, if_pos (by omega), List.getElem?_eq_getElem (show j < zs.length by omega)]
    simp [List.getD_eq_getElem?_getD, List.getElem?_eq_getElem (show j < zs.length by omega)]
end
theorem andT {a b : Bool} (ha : a = true) (hb : b = true) : (a && b) = true := by rw [ha, hb]; rfl
theorem lF {b : Bool} (h : b = false) : (b == Try.prog.liftsFinal) = true := by rw [liftsFinal, h]; rfl
theorem mK {m : Make} (h : m = .cut) : (Try.prog.make == some m) = true := by rw [make, h]; rfl
theorem gbEnd {a b : World} (h : a.grownBy b none) : Below a.heap.size a b := gbBelow h
end Go.Proofs.Ytapljpcpmdlppaa
