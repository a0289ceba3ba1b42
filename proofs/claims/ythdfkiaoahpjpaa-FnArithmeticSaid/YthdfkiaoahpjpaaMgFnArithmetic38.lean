/-
  EvalCircuit of the program.
-/
import Derived.Test.YthdfkiaoahpjpaaMgFnArithmetic35
import Derived.Test.YthdfkiaoahpjpaaMgFnArithmetic37
namespace Go.Proofs.Ythdfkiaoahpjpaa
open Go.RowKit
set_option linter.unusedVariables false
set_option linter.unusedSimpArgs false
set_option maxHeartbeats 4000000 in
set_option maxRecDepth 100000 in
theorem implEvalCircuit_yes (m : CM) (v : Value) (B : Option Addr) (d : Nat) (bs : List Int) (w0 : World) (h : AggR w0 (ccircuit m) v) (hb : Ints w0 B 80 bs) (hbit : ∀ z ∈ bs, inB z 0 1 = true) (ok : COk m) (hq : m.outs.length ≤ 1000000) :
    Calls Try.prog 15 #[v, .slice B 80 d] w0 fun e w' => ∃ V, e = .returned (.tuple #[V, .bool true]) ∧ ownF w0.heap.size (cints (outsTo m bs m.outs.length)) V w' ∧ w0.grownBy w' none := by
  have HV := Lib.hid h
  obtain ⟨u0, u1, rfl, h1, h2⟩ := ccircuit_open h
  obtain ⟨A, cA, rfl, hc, hm, hF⟩ := plst_rd (s := 3) (fun _ => rfl) (by omega) h1
  obtain ⟨Q, cQ, rfl, hc2, hm2, hQ⟩ := cints_rd h2
  obtain ⟨n, hn⟩ : ∃ n, m.gt.length = n := ⟨_, rfl⟩
  obtain ⟨q, hqq⟩ : ∃ q, m.outs.length = q := ⟨_, rfl⟩
  rw [hn] at HV
  rw [hqq] at HV hQ hq ⊢
  have HN := Lib.hid hn
  have HQQ := Lib.hid hqq
  have HQ := Lib.hid hQ
  have HB := Lib.hid hb
  have HBI := Lib.hid hbit
  have OK := Lib.hid ok
  have hn6 : n ≤ 6000 := by have := ok.few; omega
  rw [hn]
  clear h h1 h2 hF hb hbit ok hn hm hQ hqq hc hc2 hm2
  obtain ⟨w1, hw1⟩ : ∃ x : World, w0.alloc (.cells #[.slice A n cA, .slice Q q cQ] 28) = x := ⟨_, rfl⟩
  have D1 : Hid (Blk w1 w0.heap.size 28 #[.slice A n cA, .slice Q q cQ]) := by rw [← hw1]; exact Blk.new w0 _ _
  have G1 : Hid (w0.grownBy w1 none) := by rw [← hw1]; exact gbA (gbR _ _) _
  go_enter Try.func15, Try.ntmps15
  have k0 := D1.out.cell 0
  have k1 := D1.out.cell 1
  simp at k0 k1
  go_wp2_with fail
  clear hw1 k0 k1
  refine (implCircuitOk_c m _ w1 (HV.out.grow G1.out)).mono ?_
  rintro e w2 ⟨rfl, g2⟩
  rw [circB_yes OK.out]
  have D2 := Lib.hid (D1.out.grow g2)
  have G2 := Lib.hid (gbT G1.out g2)
  clear g2 D1 G1
  go_wp2_with fail
  refine (implareBits_yes _ 80 d bs w2 (HB.out.grow G2.out) (by omega) HBI.out).mono ?_
  rintro e w2 ⟨rfl, rfl⟩
  have k0 := D2.out.cell 0
  have k1 := D2.out.cell 1
  simp at k0 k1
  go_wp2_with fail
  clear k0 k1
  refine (implEvalWires_yes m _ _ d bs w2 (HV.out.grow G2.out) (HB.out.grow G2.out) HBI.out OK.out).mono ?_
  rintro e w3 ⟨v3, rfl, o3, g3⟩
  obtain ⟨A3, c3, rfl, o3⟩ := o3.row
  have LW := wiresTo_len bs m.gt m.gt.length
  rw [LW, HN.out] at o3
  rw [LW, HN.out]
  have O3 := Lib.hid o3
  have D3 := Lib.hid (D2.out.grow g3)
  have G3 := Lib.hid (gbT G2.out g3)
  clear LW o3 g3 D2 G2
  have IW : Hid (Ints w3 A3 n (wiresTo bs m.gt m.gt.length)) := Lib.hid (by
    rw [HN.out]
    obtain ⟨F, h1, _⟩ := O3.out
    exact (cints_rd' ((cints _).toRd h1)).2.2.2)
  obtain ⟨w4, hw4⟩ : ∃ x : World, w3.alloc (.cells #[] 3) = x := ⟨_, rfl⟩
  have g4 : Hid (w3.grownBy w4 none) := by rw [← hw4]; exact gbA (gbR _ _) _
  have D4 := Lib.hid (D3.out.grow g4.out)
  have R4 : Hid (ownF w3.heap.size (cints (outsTo m bs 0)) (.slice (some ⟨w3.heap.size, 0, none⟩) 0 0) w4) := by
    rw [← hw4]
    exact Lib.hid (ownF.ints (World.ownsRow_made w3 #[] 0 (Nat.le_refl _) (by simp) rfl))
  have W0 : w0.heap.size ≤ w3.heap.size := G3.out.size
  have IQ := Lib.hid (HQ.out.grow G3.out)
  have k0 := D4.out.cell 0
  have k1 := D4.out.cell 1
  simp at k0 k1
  clear D3 O3
  go_wp2_with fail
  try rw [hw4]
  clear hw4 k0 k1
  go_loopw [7, 30] (fun t i wr => ∃ k c1 : Nat, ∃ A1 : Option Addr, k ≤ q ∧ i = .int .i64 k ∧ t = .slice A1 k c1 ∧ Hid (ownF w3.heap.size (cints (outsTo m bs k)) (.slice A1 k c1) wr) ∧ Hid (w3.grownBy wr none)) (fun _ i _ => q - (intOf i).toNat)
  case atStart => exact ⟨0, 0, _, Nat.zero_le _, rfl, rfl, R4, g4⟩
  case round =>
    clear R4 g4 D4
    obtain ⟨k, c1, A1, hk, rfl, rfl, RO, GR⟩ := hrel
    by_cases hlt : k < q
    · have i1 : (k : Int) < (q : Int) := by omega
      obtain ⟨bq, oq, rfl, -, -⟩ := IQ.out.at_ (by omega)
      have kz := (IQ.out.grow GR.out).val hlt
      have hin := OK.out.outs (m.outs.getD k 0) (by rw [getI _ _ (by rw [HQQ.out]; exact hlt)]; exact List.getElem_mem _)
      have hst := outsTo_succ m bs k (by rw [HQQ.out]; exact hlt)
      have LO := Lib.hid (outsTo_len m bs k (by rw [HQQ.out]; exact hk))
      obtain ⟨z, hz⟩ : ∃ z, m.outs.getD k 0 = z := ⟨_, rfl⟩
      rw [hz] at kz hin hst
      rw [HN.out] at hin
      unfold inB at hin
      simp at hin
      obtain ⟨h0, h1⟩ := hin
      obtain ⟨a, rfl⟩ := Int.eq_ofNat_of_zero_le h0
      have ha : a < n := by omega
      have ia : (a : Int) < (n : Int) := by omega
      obtain ⟨bw, ow, rfl, -, -⟩ := IW.out.at_ (by omega)
      have kw := (IW.out.grow GR.out).val ha
      rw [Int.toNat_natCast] at hst
      obtain ⟨x, hx⟩ : ∃ x, (wiresTo bs m.gt m.gt.length).getD a 0 = x := ⟨_, rfl⟩
      rw [hx] at kw hst
      have HST := Lib.hid hst
      have hzr := GR.out.size
      clear hst hx h0 h1 hz
      go_wp2_with (at_builtin; refine wp_pushI wr wr.heap.size rfl rfl (.tmp 34) (.tmp 39) rfl x w3.heap.size A1 k c1 (outsTo m bs k) RO.out LO.out rfl rfl (by omega) hzr ?_; intro A8 c8 w9 O9 C9)
      have O10 : Hid (ownF w3.heap.size (cints (outsTo m bs (k + 1))) (.slice A8 (k + 1) c8) w9) := by rw [HST.out]; exact O9
      have G10 := Lib.hid (gbChg GR.out C9.out (fun y hy => hy.1))
      clear O9 C9 RO GR
      go_roundw
      case rel => exact ⟨k + 1, c8, A8, by omega, by go_num, rfl, O10, G10⟩
      case measure => simp [intOf]; omega
    · have hkq : k = q := by omega
      subst hkq
      go_wp2_with fail
      refine bodyPost_ret (by simp [results, Try.results15]; rfl) rfl ?_
      exact ⟨_, rfl, RO.out.lo W0, gbT G3.out GR.out⟩
end Go.Proofs.Ythdfkiaoahpjpaa
