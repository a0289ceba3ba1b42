/-
  The laws' marks on slices of Publics (printed by wip/gen_pubsm.py).
-/
import Derived.Test.YthdfkiaoahpjpaaMgFnExactCopiesNew37
namespace Go.Proofs.Ythdfkiaoahpjpaa
open Go.RowKit
set_option linter.unusedVariables false
set_option linter.unusedSimpArgs false
def mkPS (k : Int) : List PbM → List PbM
  | [] => []
  | x :: xs => x.mkd k :: mkPS (k + (x.sz : Nat)) xs
theorem mkPS_len (xss : List PbM) : ∀ k, (mkPS k xss).length = xss.length := by
  induction xss with
  | nil => intro k; rfl
  | cons x xs ih => intro k; rw [mkPS, List.length_cons, ih, List.length_cons]
theorem mkPS_get (xss : List PbM) : ∀ (k : Int) (j : Nat), (mkPS k xss)[j]? = xss[j]?.map fun x => x.mkd (k + (puS xss j : Nat)) := by
  induction xss with
  | nil => intro k j; simp [mkPS]
  | cons x xs ih =>
    intro k j
    cases j with
    | zero => simp [mkPS, puS]
    | succ j =>
      rw [mkPS, List.getElem?_cons_succ, ih, List.getElem?_cons_succ]
      have : puS (x :: xs) (j + 1) = x.sz + puS xs j := by simp [puS]
      rw [this]
      cases xs[j]? with
      | none => rfl
      | some y => simp only [Option.map_some]; congr 2; omega
theorem mkPS_step (xss : List PbM) (k : Int) (j : Nat) (x : PbM) (h : xss[j]? = some x) : ((mkPS k xss).take j ++ xss.drop j).set j (x.mkd (k + (puS xss j : Nat))) = (mkPS k xss).take (j + 1) ++ xss.drop (j + 1) := by
  obtain ⟨hj, rfl⟩ := List.getElem?_eq_some_iff.1 h
  have hl := mkPS_len xss k
  have hg := mkPS_get xss k j
  rw [h] at hg
  rw [List.set_append_right _ _ (by simp; omega), List.length_take, Nat.min_eq_left (by omega), Nat.sub_self, List.drop_eq_getElem_cons hj, List.set_cons_zero]
  have hj' : j < (mkPS k xss).length := by omega
  rw [List.take_succ_eq_append_getElem hj', List.append_assoc]
  have : (mkPS k xss)[j] = (xss[j]).mkd (k + (puS xss j : Nat)) := by
    rw [List.getElem?_eq_getElem hj'] at hg; simpa using hg
  rw [this]
  rfl
theorem cpubs_ptr {xs : List PbM} {w : World} {F : List Nat} {D : Option Addr} {n c : Nat} (h : (cpubs xs).own w F (.slice D n c)) (hi : 0 < xs.length) : ∃ gv, D = some ⟨gv, 0, none⟩ ∧ gv ∈ F := by
  obtain ⟨g, n', c', e, hg⟩ := row_own_slice (by omega) h (by rw [flat_len (sz := 3) (fun _ => rfl)]; omega)
  injection e with e
  exact ⟨g, e, hg⟩
set_option maxRecDepth 100000 in
set_option maxHeartbeats 4000000 in
theorem markPublicS_z (xss : List PbM) (v : Value) (F : List Nat) (k0 : Int) (w : World) (h : (cpubs xss).own w F v) (hn : fitP xss) (h0 : 0 ≤ k0) (h1 : k0 ≤ 274877906944) :
    Calls Try.prog 36 #[v, .int .i64 k0] w fun e w' => e = .returned (.int .i64 (k0 + (puS xss xss.length : Nat))) ∧ (cpubs (mkPS k0 xss)).own w' F v ∧ Chg (fun g => g ∈ F) w w' := by
  obtain ⟨A, c, rfl, hc, hm⟩ := cps_rd (CS.toRd _ h)
  have HX := Lib.hid h
  obtain ⟨hn, hfx, hps⟩ := hn
  have HFX := Lib.hid hfx
  clear hfx
  obtain ⟨n, hnn⟩ : ∃ n, xss.length = n := ⟨_, rfl⟩
  rw [hnn] at hc hn hps HX ⊢
  have LX := Lib.hid hnn
  unfold maxLen at hm
  clear h hnn
  go_enter Try.func36, Try.ntmps36
  go_wp2_with fail
  go_loopw [1, 5] (fun s i wr => ∃ j : Nat, j ≤ n ∧ i = .int .i64 j ∧ s = .int .i64 (k0 + (puS xss j : Nat)) ∧ Hid ((cpubs ((mkPS k0 xss).take j ++ xss.drop j)).own wr F (.slice A n c)) ∧ Hid (Chg (fun g => g ∈ F) w wr)) (fun _ i _ => n - (intOf i).toNat)
  case atStart => exact ⟨0, Nat.zero_le _, rfl, by rw [puS_zero]; go_num, by simpa [Hid] using HX.out, Chg.refl _ _⟩
  case round =>
    obtain ⟨j, hj, rfl, rfl, hown, hch⟩ := hrel
    by_cases hlt : j < n
    · have hF := hown.out
      have hjx : j < xss.length := by have := LX.out; omega
      have hx : xss[j]? = some xss[j] := List.getElem?_eq_getElem hjx
      have HS := Lib.hid (puS_succ xss j _ hx)
      have HM := Lib.hid (puS_mono xss (show j + 1 ≤ n by omega))
      obtain ⟨hf1, hf2, hf3⟩ := HFX.out xss[j] (List.getElem_mem hjx)
      have hst := mkPS_step xss k0 j _ hx
      generalize xss[j] = x at *
      have hll : ((mkPS k0 xss).take j ++ xss.drop j).length = n := by rw [List.length_append, List.length_take, mkPS_len, List.length_drop]; have := LX.out; omega
      have hlist : ((mkPS k0 xss).take j ++ xss.drop j)[j]? = some x := by
        rw [List.getElem?_append_right (by simp; omega), List.length_take, mkPS_len, Nat.min_eq_left (by omega), Nat.sub_self, List.getElem?_drop]
        simpa using hx
      have HST := Lib.hid hst
      have HLL := Lib.hid hll
      have hfl : (((mkPS k0 xss).take j ++ xss.drop j).flatMap cpb).length = n * 3 := by rw [flat_len (sz := 3) (fun _ => rfl), hll]
      generalize hys : (mkPS k0 xss).take j ++ xss.drop j = ys at *
      obtain ⟨cs, hcs⟩ : ∃ cs, ys.flatMap cpb = cs := ⟨_, rfl⟩
      have hg : ∀ q, q < 3 → cs[j * 3 + q]? = (cpb x)[q]? := fun q hq => by
        have := flat_get (sz := 3) (F := cpb) (fun _ => rfl) ys j q hq
        rw [hlist, hcs] at this
        exact this
      have HCS := Lib.hid hcs
      have HG := Lib.hid hg
      have HFL : Hid (cs.length = n * 3) := by rw [← hcs]; exact hfl
      have K0 : Hid ((row 70 3 cs).own wr F (.slice A n c)) := by rw [← hcs]; exact hF
      have HHYS := Lib.hid hys
      have i1 : (j : Int) < (n : Int) := by omega
      have hsz : x.sz = x.ts.length + x.cs.length + x.ds.length := rfl
      have hb1 : puS xss j + x.sz ≤ 16777216 := by
        have h1 := HS.out; have h2 := HM.out; omega
      obtain ⟨g, rfl, hgF⟩ := cpubs_ptr hF (by rw [hll]; omega)
      clear hx hst hlist hown hF hll hfl hys hcs hg
      have C0 := hch
      clear hch
      have hd0 : cs[j * 3]? = some (cints x.ts) := by exact HG.out 0 (by omega)
      obtain ⟨u0, F0, q0, ho0, hsub0, hnext0⟩ := row_inner2 K0.out hd0
      have HO0 := Lib.hid ho0
      have HSUB0 := Lib.hid hsub0
      have HNX0 := Lib.hid hnext0
      clear hd0 ho0 hsub0 hnext0 K0
      go_wp2_with fail
      refine (markIntS_k x.ts u0 F0 (k0 + (puS xss j : Nat)) _ HO0.out (by omega) (by omega) (by omega)).mono ?_
      rintro e w1 ⟨rfl, o2, c2⟩
      have K1 := Lib.hid (HNX0.out w1 _ c2 o2)
      have C1 := Lib.hid (C0.out.trans (c2.mono fun y hy => HSUB0.out y hy))
      clear o2 c2 q0 C0 HO0 HSUB0 HNX0
      have hd1 : (cs.set (j * 3) (cints (marks (k0 + (puS xss j : Nat)) x.ts.length)))[j * 3 + 1]? = some (cints x.cs) := by rw [List.getElem?_set_ne (by omega)]; exact HG.out 1 (by omega)
      obtain ⟨u1, F1, q1, ho1, hsub1, hnext1⟩ := row_inner2 K1.out hd1
      have HO1 := Lib.hid ho1
      have HSUB1 := Lib.hid hsub1
      have HNX1 := Lib.hid hnext1
      clear hd1 ho1 hsub1 hnext1 K1
      go_wp2_with fail
      refine (markIntS_k x.cs u1 F1 (k0 + (puS xss j : Nat) + x.ts.length) _ HO1.out (by omega) (by omega) (by omega)).mono ?_
      rintro e w2 ⟨rfl, o2, c2⟩
      have K2 := Lib.hid (HNX1.out w2 _ c2 o2)
      have C2 := Lib.hid (C1.out.trans (c2.mono fun y hy => HSUB1.out y hy))
      clear o2 c2 q1 C1 HO1 HSUB1 HNX1
      have hd2 : ((cs.set (j * 3) (cints (marks (k0 + (puS xss j : Nat)) x.ts.length))).set (j * 3 + 1) (cints (marks (k0 + (puS xss j : Nat) + x.ts.length) x.cs.length)))[j * 3 + 2]? = some (cints x.ds) := by rw [List.getElem?_set_ne (by omega), List.getElem?_set_ne (by omega)]; exact HG.out 2 (by omega)
      obtain ⟨u2, F2, q2, ho2, hsub2, hnext2⟩ := row_inner2 K2.out hd2
      have HO2 := Lib.hid ho2
      have HSUB2 := Lib.hid hsub2
      have HNX2 := Lib.hid hnext2
      clear hd2 ho2 hsub2 hnext2 K2
      go_wp2_with fail
      refine (markIntS_k x.ds u2 F2 (k0 + (puS xss j : Nat) + x.ts.length + x.cs.length) _ HO2.out (by omega) (by omega) (by omega)).mono ?_
      rintro e w3 ⟨rfl, o2, c2⟩
      have K3 := Lib.hid (HNX2.out w3 _ c2 o2)
      have C3 := Lib.hid (C2.out.trans (c2.mono fun y hy => HSUB2.out y hy))
      clear o2 c2 q2 C2 HO2 HSUB2 HNX2
      have K99 : Hid ((cpubs ((mkPS k0 xss).take (j + 1) ++ xss.drop (j + 1))).own w3 F (.slice (some ⟨g, 0, none⟩) n c)) := by
        have h9 := flat_setL (sz := 3) (F := cpb) (fun _ => rfl) (by omega) ys j (by rw [HLL.out]; exact hlt) (x.mkd (k0 + (puS xss j : Nat)))
        rw [HST.out, HCS.out] at h9
        have k6 := K3.out
        have e : setL cs (j * 3) (cpb (x.mkd (k0 + (puS xss j : Nat)))) = (((cs.set (j * 3) (cints (marks (k0 + (puS xss j : Nat)) x.ts.length))).set (j * 3 + 1) (cints (marks (k0 + (puS xss j : Nat) + x.ts.length) x.cs.length))).set (j * 3 + 2) (cints (marks (k0 + (puS xss j : Nat) + x.ts.length + x.cs.length) x.ds.length))) := rfl
        rw [e] at h9
        rw [h9] at k6
        exact k6
      clear K3
      go_wp2_with fail
      go_roundw
      case rel => exact ⟨j + 1, by omega, by go_num, by rw [HS.out, hsz]; go_num, K99.out, C3.out⟩
      case measure => simp [intOf]; omega
    · have hjn : j = n := by omega
      subst hjn
      go_wp2_with fail
      go_ret
      have hF := hown.out
      have hl := LX.out
      rw [List.take_of_length_le (by rw [mkPS_len]; omega), List.drop_of_length_le (by omega), List.append_nil] at hF
      exact ⟨rfl, hF, hch.out⟩
set_option maxHeartbeats 1600000 in
theorem heldPublicS_z (xss : List PbM) (v : Value) (k0 : Int) (w : World) (h : (cpubs (mkPS k0 xss)).rd w v) (hn : fitP xss) (h0 : 0 ≤ k0) (h1 : k0 ≤ 274877906944) :
    Calls Try.prog 37 #[v, .int .i64 k0] w fun e w' => e = .returned (.int .i64 (k0 + (puS xss xss.length : Nat))) ∧ w.grownBy w' none := by
  obtain ⟨A, c, rfl, hc, hm⟩ := cps_rd h
  rw [mkPS_len] at hc h ⊢
  have HX := Lib.hid h
  obtain ⟨hn, hfx, hps⟩ := hn
  have HFX := Lib.hid hfx
  clear hfx
  obtain ⟨n, hnn⟩ : ∃ n, xss.length = n := ⟨_, rfl⟩
  rw [hnn] at hc hn hps HX ⊢
  have LX := Lib.hid hnn
  unfold maxLen at hm
  clear h hnn
  go_enter Try.func37, Try.ntmps37
  go_wp2_with fail
  go_loopw [1, 5] (fun s i wr => ∃ j : Nat, j ≤ n ∧ i = .int .i64 j ∧ s = .int .i64 (k0 + (puS xss j : Nat)) ∧ Hid (w.grownBy wr none)) (fun _ i _ => n - (intOf i).toNat)
  case atStart => exact ⟨0, Nat.zero_le _, rfl, by rw [puS_zero]; go_num, gbR _ _⟩
  case round =>
    obtain ⟨j, hj, rfl, rfl, hG⟩ := hrel
    by_cases hlt : j < n
    · have HXr := CS.grow _ HX.out hG.out
      obtain ⟨b, o, y, rfl, hb, hy, hcel⟩ := lst_at (s := 3) (fun _ => rfl) (by omega) HXr hlt
      have hjx : j < xss.length := by have := LX.out; omega
      have hx : xss[j]? = some xss[j] := List.getElem?_eq_getElem hjx
      have HS := Lib.hid (puS_succ xss j _ hx)
      have HM := Lib.hid (puS_mono xss (show j + 1 ≤ n by omega))
      obtain ⟨hf1, hf2, hf3⟩ := HFX.out xss[j] (List.getElem_mem hjx)
      rw [mkPS_get, hx] at hy
      generalize xss[j] = x at *
      simp at hy
      subst hy
      obtain ⟨u0, q0, r0⟩ := hcel 0 (cints (marks (k0 + (puS xss j : Nat)) x.ts.length)) rfl
      obtain ⟨u1, q1, r1⟩ := hcel 1 (cints (marks (k0 + (puS xss j : Nat) + x.ts.length) x.cs.length)) rfl
      obtain ⟨u2, q2, r2⟩ := hcel 2 (cints (marks (k0 + (puS xss j : Nat) + x.ts.length + x.cs.length) x.ds.length)) rfl
      simp only [Nat.add_zero, ← Nat.add_assoc] at q0 q1 q2
      have R0 := Lib.hid r0
      have R1 := Lib.hid r1
      have R2 := Lib.hid r2
      have Q1 := Lib.hid q1
      have Q2 := Lib.hid q2
      have hsz : x.sz = x.ts.length + x.cs.length + x.ds.length := rfl
      have hb1 : puS xss j + x.sz ≤ 16777216 := by
        have h1 := HS.out; have h2 := HM.out; omega
      have hb2 : ¬ (k0 + (puS xss j : Nat) + (x.ts.length : Int) < 0) := by omega
      have hb3 : ¬ (k0 + (puS xss j : Nat) + (x.ts.length : Int) + (x.cs.length : Int) < 0) := by omega
      have hb4 : ¬ (k0 + (puS xss j : Nat) + (x.ts.length : Int) + (x.cs.length : Int) + (x.ds.length : Int) < 0) := by omega
      have i1 : (j : Int) < (n : Int) := by omega
      clear hx r0 r1 r2 hcel HXr
      go_wp2_with fail
      refine (heldIntS_k x.ts.length u0 (k0 + (puS xss j : Nat)) _ R0.out (by omega) (by omega) (by omega)).mono ?_
      rintro e w2 ⟨rfl, g2⟩
      have G2 := Lib.hid (gbT hG.out g2)
      have q1' := gbk g2 Q1.out
      have R1' := Lib.hid (CS.grow _ R1.out g2)
      have Q2' := Lib.hid (gbk g2 Q2.out)
      have g2' := g2
      clear g2 q0 q1 q2
      go_wp2_with fail
      refine (heldIntS_k x.cs.length u1 (k0 + (puS xss j : Nat) + x.ts.length) _ R1'.out (by omega) (by omega) (by omega)).mono ?_
      rintro e w3 ⟨rfl, g3⟩
      have G3 := Lib.hid (gbT G2.out g3)
      have q2' := gbk g3 Q2'.out
      have R2' := Lib.hid (CS.grow _ R2.out (gbT g2' g3))
      clear g3 q1' g2'
      go_wp2_with fail
      refine (heldIntS_k x.ds.length u2 (k0 + (puS xss j : Nat) + x.ts.length + x.cs.length) _ R2'.out (by omega) (by omega) (by omega)).mono ?_
      rintro e w4 ⟨rfl, g4⟩
      have G4 := Lib.hid (gbT G3.out g4)
      clear g4 q2'
      go_wp2_with fail
      go_roundw
      case rel => exact ⟨j + 1, by omega, by go_num, by rw [HS.out, hsz]; go_num, G4.out⟩
      case measure => simp [intOf]; omega
    · have hjn : j = n := by omega
      subst hjn
      go_wp2_with fail
      go_ret
      exact ⟨rfl, hG.out⟩
end Go.Proofs.Ythdfkiaoahpjpaa
