/-
  EvalWires, EvalCircuit of the reference, for a circuit of constants.
-/
import Derived.Test.YthdfkiaoahpjpaaMgFnConstantCircuits41
namespace Go.Proofs.Ythdfkiaoahpjpaa
open Go.RowKit
set_option linter.unusedVariables false
set_option linter.unusedSimpArgs false
def cst (M : List Nat) : List Int := M.map fun (b : Nat) => (b : Int)
theorem cst_len (M : List Nat) : (cst M).length = M.length := by simp [cst]
theorem cst_take {M : List Nat} {k b : Nat} (h : M[k]? = some b) : cst (M.take (k + 1)) = cst (M.take k) ++ [(b : Int)] := by
  obtain ⟨hk, hb⟩ := List.getElem?_eq_some_iff.1 h
  unfold cst
  rw [List.take_succ_eq_append_getElem hk, List.map_append, hb]
  rfl
set_option maxHeartbeats 2000000 in
set_option maxRecDepth 100000 in
theorem specEvalWires_yes (M : List Nat) (us : List Int) (v : Value) (B : Option Addr) (d : Nat) (bs : List Int) (w0 : World) (h : AggR w0 (ccircuit ⟨gt2 M, us⟩) v) (hb : Ints w0 B 80 bs) (hbit : bitsB bs = true) (ok : COk ⟨gt2 M, us⟩) :
    Calls Try.prog 69 #[v, .slice B 80 d] w0 fun e w' => ∃ V, e = .returned V ∧ ownF w0.heap.size (cints (cst M)) V w' ∧ w0.grownBy w' none := by
  have HV := Lib.hid h
  obtain ⟨u0, u1, rfl, h1, h2⟩ := ccircuit_open h
  obtain ⟨A, cA, rfl, hc, hm, hF⟩ := plst_rd (s := 3) (fun _ => rfl) (by omega) h1
  simp only at hF hc
  rw [gt2_len] at hF hc
  have hgl := ok.few
  simp only [gt2_len] at hgl
  obtain ⟨n, hn⟩ : ∃ n, M.length = n := ⟨_, rfl⟩
  simp only [gt2_len] at HV ⊢
  rw [hn] at HV hF hc hgl ⊢
  have HN := Lib.hid hn
  have HF := Lib.hid hF
  have HB := Lib.hid hb
  have HBI := Lib.hid hbit
  have OK := Lib.hid ok
  clear h h1 h2 hF hb hbit ok hn hm
  obtain ⟨w1, hw1⟩ : ∃ x : World, (w0.alloc (.cells #[.slice A n cA, u1] 28)).alloc (.cells #[] 3) = x := ⟨_, rfl⟩
  have D1 : Hid (Blk w1 w0.heap.size 28 #[.slice A n cA, u1]) := by rw [← hw1]; exact (Blk.new w0 _ _).grow (gbA (gbR _ _) _)
  have G1 : Hid (w0.grownBy w1 none) := by rw [← hw1]; exact gbA (gbA (gbR _ _) _) _
  have R1 : Hid (ownF w0.heap.size (cints (cst (M.take 0))) (.slice (some ⟨w0.heap.size + 1, 0, none⟩) 0 0) w1) := by
    rw [← hw1]
    refine Lib.hid (ownF.ints (n := 0) ?_)
    have := World.ownsRow_made (w0.alloc (.cells #[.slice A n cA, u1] 28)) (base := w0.heap.size) (e := 3) (size := 1) #[] 0 (by simp) (by simp) rfl
    simpa [cst] using this
  go_enter Try.func69, Try.ntmps69
  have k0 := D1.out.cell 0
  have k1 := D1.out.cell 1
  simp at k0 k1
  go_wp2_with fail
  clear hw1 k0 k1
  refine (specCircuitOk_c _ _ w1 (HV.out.grow G1.out)).mono ?_
  rintro e w2 ⟨rfl, g2⟩
  rw [circB_yes OK.out]
  have D2 := Lib.hid (D1.out.grow g2)
  have G2 := Lib.hid (gbT G1.out g2)
  have R2 := Lib.hid (R1.out.grow g2)
  clear g2 D1 G1 R1
  go_wp2_with fail
  refine (specl13Bits_c B 80 d 80 bs w2 (HB.out.grow G2.out) (by omega)).mono ?_
  rintro e w2 ⟨rfl, rfl⟩
  rw [HBI.out]
  go_wp2_with fail
  go_loopw [5, 6] (fun t i wr => ∃ k c1 : Nat, ∃ A1 : Option Addr, k ≤ n ∧ i = .int .i64 k ∧ t = .slice A1 k c1 ∧ Hid (ownF w0.heap.size (cints (cst (M.take k))) (.slice A1 k c1) wr) ∧ Hid (Blk wr w0.heap.size 28 #[.slice A n cA, u1]) ∧ Hid (w0.grownBy wr none)) (fun _ i _ => n - (intOf i).toNat)
  case atStart => exact ⟨0, 0, _, Nat.zero_le _, rfl, rfl, R2, D2, G2⟩
  case round =>
    clear R2 D2 G2
    obtain ⟨k, c1, A1, hk, rfl, rfl, RO, DR, GR⟩ := hrel
    have d0 := DR.out.cell 0
    simp at d0
    by_cases hlt : k < n
    · have i1 : (k : Int) < (n : Int) := by omega
      obtain ⟨b, o, x, y, z9, rfl, hbl, hx, q0, q1, q2⟩ := gates_at (FL.grow HF.out GR.out) hlt
      obtain ⟨bt, hbt⟩ : ∃ bt, M[k]? = some bt := ⟨M[k]'(by rw [HN.out]; exact hlt), List.getElem?_eq_getElem _⟩
      have hg9 : (gt2 M)[k]? = some (2, (bt : Int), 0) := by simp [gt2, hbt]
      rw [hg9] at hx
      injection hx with hx
      injection hx with e1 hx
      injection hx with e2 e3
      subst e1; subst e2
      have E3 := Lib.hid e3
      have HST := Lib.hid (cst_take hbt)
      have LT : Hid ((cst (M.take k)).length = k) := by unfold Hid; rw [cst_len, List.length_take, HN.out]; omega
      clear hg9 hbt e3
      obtain ⟨w7, hw7⟩ : ∃ q : World, wr.alloc (.cells #[.int .i64 2, .int .i64 bt, .int .i64 z9] 41) = q := ⟨_, rfl⟩
      have g7 : wr.grownBy w7 none := by rw [← hw7]; exact gbA (gbR _ _) _
      have BG : Hid (Blk w7 wr.heap.size 41 #[.int .i64 2, .int .i64 bt, .int .i64 z9]) := by rw [← hw7]; exact Lib.hid (Blk.new wr _ _)
      have k0 := BG.out.cell 0
      have k1 := BG.out.cell 1
      simp at k0 k1
      have O7 := Lib.hid (RO.out.grow g7)
      have D7 := Lib.hid (DR.out.grow g7)
      have G7 := Lib.hid (gbT GR.out g7)
      clear g7 BG RO DR GR
      go_wp2_with (at_builtin; refine wp_pushI w7 w7.heap.size rfl rfl (.tmp 76) (.tmp 78) rfl (bt : Int) w0.heap.size _ k c1 (cst (M.take k)) O7.out LT.out rfl rfl (by omega) G7.out.size ?_; intro A8 c8 w9 O9 C9)
      have O10 : Hid (ownF w0.heap.size (cints (cst (M.take (k + 1)))) (.slice A8 (k + 1) c8) w9) := by rw [HST.out]; exact O9
      have D9 := Lib.hid (PSH.keep C9.out D7.out hTCI)
      have G9 := Lib.hid (gbChg G7.out C9.out (fun y hy => hy.1))
      clear C9 O7 D7 G7 O9
      go_roundw
      case rel => exact ⟨k + 1, c8, A8, by omega, by go_num, rfl, O10, D9, G9⟩
      case measure => simp [intOf]; omega
    · have hkn : k = n := by omega
      subst hkn
      have i1 : ¬ (k : Int) < (k : Int) := by omega
      go_wp2_with fail
      refine bodyPost_ret (by simp [results, Try.results69]; rfl) rfl ?_
      refine ⟨_, rfl, ?_, GR.out⟩
      have := RO.out
      rw [List.take_of_length_le (by rw [HN.out]; omega)] at this
      exact this
def outC (M : List Nat) (us : List Int) (k : Nat) : List Int := (us.take k).map fun u => (cst M).getD u.toNat 0
theorem outC_len (M : List Nat) (us : List Int) {k : Nat} (hk : k ≤ us.length) : (outC M us k).length = k := by
  unfold outC
  simp
  omega
theorem outC_succ (M : List Nat) (us : List Int) {k : Nat} (hk : k < us.length) : outC M us (k + 1) = outC M us k ++ [(cst M).getD (us.getD k 0).toNat 0] := by
  unfold outC
  rw [List.take_succ_eq_append_getElem hk, List.map_append, getI _ _ hk]
  rfl
set_option maxHeartbeats 2000000 in
set_option maxRecDepth 100000 in
theorem specEvalCircuit_yes (M : List Nat) (us : List Int) (v : Value) (B : Option Addr) (d : Nat) (bs : List Int) (w0 : World) (h : AggR w0 (ccircuit ⟨gt2 M, us⟩) v) (hb : Ints w0 B 80 bs) (hbit : bitsB bs = true) (ok : COk ⟨gt2 M, us⟩) (hq : us.length ≤ 1000000) :
    Calls Try.prog 25 #[v, .slice B 80 d] w0 fun e w' => ∃ V, e = .returned (.tuple #[V, .bool true]) ∧ ownF w0.heap.size (cints (outC M us us.length)) V w' ∧ w0.grownBy w' none := by
  have HV := Lib.hid h
  obtain ⟨u0, u1, rfl, h1, h2⟩ := ccircuit_open h
  obtain ⟨A, cA, rfl, hc, hm, hF⟩ := plst_rd (s := 3) (fun _ => rfl) (by omega) h1
  obtain ⟨Q, cQ, rfl, hc2, hm2, hQ⟩ := cints_rd h2
  simp only at hQ hc2
  obtain ⟨n, hn⟩ : ∃ n, M.length = n := ⟨_, rfl⟩
  obtain ⟨q, hqq⟩ : ∃ q, us.length = q := ⟨_, rfl⟩
  have hgl := ok.few
  simp only [gt2_len] at HV hgl ⊢
  rw [hn] at HV hgl ⊢
  rw [hqq] at HV hQ hq hc2 ⊢
  have HN := Lib.hid hn
  have HQQ := Lib.hid hqq
  have HQ := Lib.hid hQ
  have HB := Lib.hid hb
  have HBI := Lib.hid hbit
  have OK := Lib.hid ok
  clear h h1 h2 hF hb hbit ok hn hm hQ hqq hc hc2 hm2
  obtain ⟨w1, hw1⟩ : ∃ x : World, (w0.alloc (.cells #[.slice A n cA, .slice Q q cQ] 28)).alloc (.cells #[] 3) = x := ⟨_, rfl⟩
  have D1 : Hid (Blk w1 w0.heap.size 28 #[.slice A n cA, .slice Q q cQ]) := by rw [← hw1]; exact (Blk.new w0 _ _).grow (gbA (gbR _ _) _)
  have G1 : Hid (w0.grownBy w1 none) := by rw [← hw1]; exact gbA (gbA (gbR _ _) _) _
  have Z1 : Hid (w1.heap.size = w0.heap.size + 2) := by rw [← hw1]; exact Lib.hid (by simp)
  have R1 : Hid (ownF w0.heap.size (cints (outC M us 0)) (.slice (some ⟨w0.heap.size + 1, 0, none⟩) 0 0) w1) := by
    rw [← hw1]
    refine Lib.hid (ownF.ints (n := 0) ?_)
    have := World.ownsRow_made (w0.alloc (.cells #[.slice A n cA, .slice Q q cQ] 28)) (base := w0.heap.size) (e := 3) (size := 1) #[] 0 (by simp) (by simp) rfl
    simpa [outC] using this
  go_enter Try.func25, Try.ntmps25
  have k0 := D1.out.cell 0
  have k1 := D1.out.cell 1
  simp at k0 k1
  go_wp2_with fail
  clear hw1 k0 k1
  refine (specCircuitOk_c _ _ w1 (HV.out.grow G1.out)).mono ?_
  rintro e w2 ⟨rfl, g2⟩
  rw [circB_yes OK.out]
  have D2 := Lib.hid (D1.out.grow g2)
  have G2 := Lib.hid (gbT G1.out g2)
  have R2 := Lib.hid (R1.out.grow g2)
  have Z2 : Hid (w0.heap.size + 2 ≤ w2.heap.size) := Lib.hid (by have h1 := g2.size; have h2 := Z1.out; omega)
  have k0 := D2.out.cell 0
  have k1 := D2.out.cell 1
  simp at k0 k1
  clear g2 D1 G1 R1
  go_wp2_with fail
  refine (specl13Bits_c B 80 d 80 bs w2 (HB.out.grow G2.out) (by omega)).mono ?_
  rintro e w2 ⟨rfl, rfl⟩
  rw [HBI.out]
  go_wp2_with fail
  clear k0 k1
  refine (specEvalWires_yes M us _ B d bs w2 (HV.out.grow G2.out) (HB.out.grow G2.out) HBI.out OK.out).mono ?_
  rintro e w3 ⟨v3, rfl, o3, g3⟩
  obtain ⟨A3, c3, rfl, o3⟩ := o3.row
  rw [cst_len, HN.out] at o3 ⊢
  have hz1 : w0.heap.size + 2 ≤ w2.heap.size := Z2.out
  have hz3 := g3.size
  have D3 := Lib.hid (D2.out.grow g3)
  have R3 := R2.out.grow g3
  have G3 := Lib.hid (gbT G2.out g3)
  obtain ⟨F3, hF3, lF3⟩ := o3
  have HF3 := Lib.hid hF3
  have LF3 : Hid (∀ x ∈ F3, w2.heap.size ≤ x ∧ x < w3.heap.size) := Lib.hid (fun x hx => ⟨lF3 x hx, CS.lt _ hF3 x hx⟩)
  obtain ⟨F, hF, _⟩ := R3
  obtain ⟨A', c', e, hFi, _⟩ := cints_row hF
  have OF : Hid ((cints (outC M us 0)).own w3 F (.slice (some ⟨w0.heap.size + 1, 0, none⟩) 0 0)) := Lib.hid hF
  have LF : Hid (∀ x ∈ F, x = w0.heap.size + 1 ∨ w3.heap.size ≤ x) := Lib.hid (fun x hx => by rw [hFi] at hx; simp [Value.ownBlock] at hx; exact .inl hx)
  have CF : Hid (Chg (fun y => y = w0.heap.size + 1 ∨ w3.heap.size ≤ y) w3 w3) := Lib.hid (Chg.refl _ _)
  clear g3 R2 D2 G2 hF3 lF3 hF hFi e
  go_wp2_with fail
  go_loopw [6, 8] (fun t i wr => ∃ k c1 : Nat, ∃ (A1 : Option Addr) (F : List Nat), k ≤ q ∧ i = .int .i64 k ∧ t = .slice A1 k c1 ∧ Hid ((cints (outC M us k)).own wr F (.slice A1 k c1)) ∧ Hid (∀ x ∈ F, x = w0.heap.size + 1 ∨ w3.heap.size ≤ x) ∧ Hid (Chg (fun y => y = w0.heap.size + 1 ∨ w3.heap.size ≤ y) w3 wr)) (fun _ i _ => q - (intOf i).toNat)
  case atStart => exact ⟨0, 0, _, F, Nat.zero_le _, rfl, rfl, OF, LF, CF⟩
  case round =>
    clear OF LF CF
    obtain ⟨k, c1, A1, F1, hk, rfl, rfl, OF, LF, CF⟩ := hrel
    have DR := Lib.hid (D3.out.chg CF.out (fun e => by have := D3.out.lt; omega))
    have GR : Hid (w0.grownBy wr none) := Lib.hid (gbC G3.out CF.out (fun y hy => .inr (by omega)))
    have d1 := DR.out.cell 1
    simp at d1
    by_cases hlt : k < q
    · have i1 : (k : Int) < (q : Int) := by omega
      obtain ⟨bq, oq, rfl, -, -⟩ := HQ.out.at_ (by omega)
      have kz := (HQ.out.grow GR.out).val hlt
      have hin := OK.out.outs (us.getD k 0) (by rw [getI _ _ (by rw [HQQ.out]; exact hlt)]; exact List.getElem_mem _)
      have hst := outC_succ M us (k := k) (by rw [HQQ.out]; exact hlt)
      have LO := Lib.hid (outC_len M us (k := k) (by rw [HQQ.out]; exact hk))
      obtain ⟨z, hz⟩ : ∃ z, us.getD k 0 = z := ⟨_, rfl⟩
      rw [hz] at kz hin hst
      unfold inB at hin
      simp [gt2_len] at hin
      rw [HN.out] at hin
      obtain ⟨h0, h1⟩ := hin
      obtain ⟨a, rfl⟩ := Int.eq_ofNat_of_zero_le h0
      have ha : a < n := by omega
      have ia : (a : Int) < (n : Int) := by omega
      have IW := (cints_rd' ((cints _).toRd (own_chgK _ HF3.out CF.out (fun x hx e => by have := LF3.out x hx; omega)))).2.2.2
      obtain ⟨bw, ow, rfl, -, -⟩ := IW.at_ (by omega)
      have kw := IW.val ha
      rw [Int.toNat_natCast] at hst
      obtain ⟨x, hx⟩ : ∃ x, (cst M).getD a 0 = x := ⟨_, rfl⟩
      rw [hx] at kw hst
      have HST := Lib.hid hst
      have hzr := CF.out.size
      clear hst hx h0 h1 hz IW
      go_wp2_with (at_builtin; refine wp_pushG wr wr.heap.size rfl rfl (.tmp 29) (.tmp 38) rfl x A1 k c1 (outC M us k) F1 OF.out LO.out rfl rfl (by omega) ?_; intro A8 c8 w9 F9 O9 C9 S9)
      have O10 : Hid ((cints (outC M us (k + 1))).own w9 F9 (.slice A8 (k + 1) c8)) := by rw [HST.out]; exact O9
      have L10 : Hid (∀ x ∈ F9, x = w0.heap.size + 1 ∨ w3.heap.size ≤ x) := Lib.hid (fun y hy => (S9.out y hy).elim (LF.out y) (fun e => .inr (by omega)))
      have C10 := Lib.hid (CF.out.trans (((Chg.of (S := fun y => y ∈ F1) (gbA (gbR wr none) (.cells #[.int .i64 x] 3)) (by simp)).trans C9.out).mono (fun y hy => LF.out y hy)))
      clear O9 C9 S9 OF LF CF
      go_roundw
      case rel => exact ⟨k + 1, c8, A8, F9, by omega, by go_num, rfl, O10, L10, C10⟩
      case measure => simp [intOf]; omega
    · have hkq : k = q := by omega
      subst hkq
      have i1 : ¬ (k : Int) < (k : Int) := by omega
      go_wp2_with fail
      refine bodyPost_ret (by simp [results, Try.results25]; rfl) rfl ?_
      exact ⟨_, rfl, ⟨F1, OF.out, fun x hx => by have := LF.out x hx; omega⟩, GR.out⟩
end Go.Proofs.Ythdfkiaoahpjpaa
