/-
  Optimize of the program, for a circuit without inputs.
-/
import Derived.Test.YthdfkiaoahpjpaaMgFnConstantCircuits42
namespace Go.Proofs.Ythdfkiaoahpjpaa
open Go.RowKit
set_option linter.unusedVariables false
set_option linter.unusedSimpArgs false
theorem const_ok {M : List Nat} {us : List Int} (hM : ∀ b ∈ M, b ≤ 1) (hl : M.length ≤ 6000) (hu : ∀ j, j < us.length → ∃ t : Nat, us[j]? = some (t : Int) ∧ ∃ b, M[t]? = some b) : COk ⟨gt2 M, us⟩ := by
  refine ⟨by simp only [gt2_len]; exact hl, fun j hj => ?_, fun z hz => ?_⟩
  · simp only [gt2_len] at hj
    have hb := hM M[j] (List.getElem_mem hj)
    have hg : gtAt ⟨gt2 M, us⟩ j = (2, ((M[j] : Nat) : Int), 0) := by
      unfold gtAt
      simp [gt2, List.getD_eq_getElem?_getD, hj]
    rw [hg]
    simp [gateB, inB]
    omega
  · obtain ⟨j, hj, rfl⟩ := List.mem_iff_getElem.1 hz
    obtain ⟨t, h1, b, h2⟩ := hu j hj
    rw [List.getElem?_eq_getElem hj] at h1
    injection h1 with h1
    have := (List.getElem?_eq_some_iff.1 h2).1
    simp only [gt2_len]
    rw [h1]
    simp [inB]
    omega
def OptJ (m : CM) (bs : List Int) (w0 : World) (e : Ending) (w' : World) : Prop :=
  ∃ (V : Value) (M : List Nat) (us : List Int), e = .returned V ∧ AggR w' (ccircuit ⟨gt2 M, us⟩) V ∧ COk ⟨gt2 M, us⟩ ∧ M.length ≤ 2 ∧ us.length = m.outs.length ∧ outC M us us.length = outsTo m bs m.outs.length ∧ w0.grownBy w' none
theorem opt_is {m : CM} {bs : List Int} {L M : List Nat} {os us : List Int} (hbit : ∀ x ∈ wiresTo bs m.gt m.gt.length, bitI x) (hl : us.length = os.length) (hl2 : os.length = m.outs.length)
    (h1 : ∀ j, j < os.length → ∃ t : Nat, os[j]? = some (t : Int) ∧ L[t]? = some ((wiresTo bs m.gt m.gt.length).getD (m.outs.getD j 0).toNat 0).toNat)
    (h2 : ∀ j, j < us.length → ∃ t : Nat, us[j]? = some (t : Int) ∧ ∃ b, M[t]? = some b ∧ L[(os.getD j 0).toNat]? = some b) : outC M us us.length = outsTo m bs m.outs.length := by
  unfold outC outsTo
  rw [List.take_of_length_le (Nat.le_refl _), List.take_of_length_le (Nat.le_refl _)]
  refine List.ext_getElem (by simp; omega) fun j hj hj' => ?_
  rw [List.length_map] at hj hj'
  obtain ⟨t, a1, b, a2, a3⟩ := h2 j hj
  obtain ⟨s, b1, b2⟩ := h1 j (by omega)
  rw [List.getD_eq_getElem?_getD, b1, Option.getD_some, Int.toNat_natCast, b2] at a3
  injection a3 with a3
  have c1 : us[j] = (t : Int) := by rw [List.getElem?_eq_getElem hj] at a1; injection a1
  simp only [List.getElem_map, c1, Int.toNat_natCast]
  have d1 : (cst M).getD t 0 = (b : Int) := by
    obtain ⟨q1, q2⟩ := List.getElem?_eq_some_iff.1 a2
    simp [cst, List.getD_eq_getElem?_getD, q1, q2]
  rw [d1, ← a3, getI _ _ hj']
  have hb := (getD_bit hbit (m.outs[j]).toNat).1
  omega
set_option maxHeartbeats 2000000 in
set_option maxRecDepth 100000 in
theorem implOptimize_yes (m : CM) (v : Value) (bs : List Int) (w0 : World) (h : AggR w0 (ccircuit m) v) (ok : COk m) (hn0 : noIn m.gt) (hbs : ∀ z ∈ bs, bitI z) (hou : m.outs.length ≤ 1000) :
    Calls Try.prog 24 #[v] w0 (OptJ m bs w0) := by
  have HV := Lib.hid h
  obtain ⟨u0, u1, rfl, h1, h2⟩ := ccircuit_open h
  have OK := Lib.hid ok
  have NI := Lib.hid hn0
  have BSB := Lib.hid hbs
  have HOU := Lib.hid hou
  clear h h1 h2 ok hn0 hbs hou
  obtain ⟨w1, hw1⟩ : ∃ x : World, (w0.alloc (.cells #[u0, u1] 28)).alloc (.cells #[.slice none 0 0, .slice none 0 0] 28) = x := ⟨_, rfl⟩
  have D1 : Hid (Blk w1 w0.heap.size 28 #[u0, u1]) := by rw [← hw1]; exact (Blk.new w0 _ _).grow (gbA (gbR _ _) _)
  have E1 : Hid (Blk w1 (w0.heap.size + 1) 28 #[.slice none 0 0, .slice none 0 0]) := by rw [← hw1]; exact Blk.new' _ _ _ _ (by simp)
  have G1 : Hid (w0.grownBy w1 none) := by rw [← hw1]; exact gbA (gbA (gbR _ _) _) _
  go_enter Try.func24, Try.ntmps24
  have k0 := D1.out.cell 0
  have k1 := D1.out.cell 1
  simp at k0 k1
  go_wp2_with fail
  clear hw1 k0 k1
  refine (implSimplify_yes m _ bs w1 (HV.out.grow G1.out) OK.out NI.out BSB.out HOU.out).mono ?_
  rintro e w2 ⟨V2, L, os, rfl, v2, ⟨hL, hLn⟩, hol, hos, g2⟩
  have hL2 := short2 hL hLn
  have HOS := Lib.hid hos
  have V2H := Lib.hid v2
  have HL := Lib.hid hL
  have HOL := Lib.hid hol
  have E2 := Lib.hid (E1.out.grow g2)
  have G2 := Lib.hid (gbT G1.out g2)
  have OK2 := Lib.hid (const_ok hL (by omega) (fun j hj => by obtain ⟨t, a1, a2⟩ := hos j hj; exact ⟨t, a1, _, a2⟩))
  clear hos v2 hL hLn hol g2 D1 E1 G1
  go_wp2_with fail
  refine (implPrune_yes L os V2 w2 V2H.out OK2.out HL.out (by have := HOL.out; have := HOU.out; omega)).mono ?_
  rintro e w3 ⟨V3, M, us, rfl, v3, hM, hML, hul, hus, g3⟩
  have OK3 := Lib.hid (const_ok hM (by omega) (fun j hj => by obtain ⟨t, a1, b, a2, _⟩ := hus j hj; exact ⟨t, a1, b, a2⟩))
  have OP := Lib.hid (opt_is (m := m) (bs := bs) (wires_bit BSB.out OK.out _ (Nat.le_refl _)) hul HOL.out HOS.out hus)
  have HUL : Hid (us.length = m.outs.length) := Lib.hid (by rw [hul, HOL.out])
  have E3 := Lib.hid (E2.out.grow g3)
  have G3 := Lib.hid (gbT G2.out g3)
  have hM2 : M.length ≤ 2 := by omega
  obtain ⟨F, hF, lF⟩ := v3
  obtain ⟨A0, n0, c0, A1, n1, c1, rfl⟩ := ccircuit_oform hF
  have RS := Lib.hid (blk_setCells E3.out [.slice A0 n0 c0, .slice A1 n1 c1] rfl)
  have CH := Lib.hid (chg_setCells (w0.heap.size + 1) [.slice A0 n0 c0, .slice A1 n1 c1] 0 w3)
  have hlE := E2.out.lt
  have RV : Hid (AggR (setCells w3 (w0.heap.size + 1) 0 [.slice A0 n0 c0, .slice A1 n1 c1]) (ccircuit ⟨gt2 M, us⟩) (.agg #[.slice A0 n0 c0, .slice A1 n1 c1])) := Lib.hid (aggF.rd (lo := w2.heap.size) ⟨F, hF.chg CH.out (fun x hx e => by have := lF x hx; omega), lF⟩)
  have r0 := E3.out.cell 0
  have r1 := E3.out.cell 1
  have f0 := E3.out.frozen 0
  have f1 := E3.out.frozen 1
  simp at r0 r1
  have GZ := Lib.hid (gbC G3.out CH.out (fun y hy => .inr (by rw [hy]; omega)))
  clear hF lF g3 E3 G3 E2 G2 hlE
  go_wp2_with fail
  refine ret_c Try.results24 (by rfl) stCircuit RS.out (by rfl) (by rfl) ?_
  exact ⟨_, M, us, rfl, RV.out, OK3.out, hM2, HUL.out, OP.out, GZ.out⟩
end Go.Proofs.Ythdfkiaoahpjpaa
