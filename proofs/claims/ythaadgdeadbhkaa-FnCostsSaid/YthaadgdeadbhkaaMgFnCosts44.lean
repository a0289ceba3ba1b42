/-
  EngineRound of the reference (printed by wip/gen_sengrnd.py).
-/
import Derived.Test.YthaadgdeadbhkaaMgFnCosts39
import Derived.Test.YthaadgdeadbhkaaMgFnCosts41
import Derived.Test.YthaadgdeadbhkaaMgFnCosts43
import Derived.Test.YthaadgdeadbhkaaMgFnCosts25
import Derived.Test.YthaadgdeadbhkaaMgFnCosts0
import Derived.Test.YthaadgdeadbhkaaMgFnCosts1
import Derived.Deep.DeepCutAuto
import Derived.Test.YthaadgdeadbhkaaMgFnCosts20
namespace Go.Proofs.Ythaadgdeadbhkaa
open Go.RowKit
set_option linter.unusedVariables false
set_option linter.unusedSimpArgs false
theorem ewfW_round {m : EM} {ts : List TrM} {es : List Int} (h : ewf m) (ht : ∀ x ∈ ts, twf x) (hm : mayB m ts es = true) : ewfW (roundEnd m (roundTo m ts es (mulsOf m) (mulsOf m).length)) := by
  obtain ⟨f1, f2, f3, f4, f5⟩ := roundTo_fix m ts es (mulsOf m) (mulsOf m).length
  have hfew : (mulsOf m).length ≤ 60 := mulsAt_few _ _
  obtain ⟨h1, h2, h3, h4, h5, h6⟩ := mayB_is hm
  have ho := h.op
  refine ⟨?_, ?_, ?_, ?_, ?_⟩
  · show kwf (roundTo m ts es (mulsOf m) (mulsOf m).length).k; rw [f1]; exact h.k
  · show amwf (roundTo m ts es (mulsOf m) (mulsOf m).length).c; rw [f2]; exact h.c
  · exact adds_awf (roundTo_awf h.vs ht _ h4) _
  · show (addsTo _ _ _ _).length ≤ _; rw [addsTo_len, f4]; exact h.n
  · show (roundTo m ts es (mulsOf m) (mulsOf m).length).op.length ≤ _; rw [f5]; omega
set_option maxHeartbeats 20000000 in
set_option maxRecDepth 100000 in
theorem specEngineRound_c (m : EM) (ts : List TrM) (es : List Int) (v : Value) (T R : Option Addr) (nt ct nr cr : Nat) (w0 : World) (h : AggR w0 (cengine m) v) (ht : (ctriples ts).rd w0 (.slice T nt ct)) (he : Ints w0 R nr es) (wm : ewf m) (wt : ∀ x ∈ ts, twf x) (hnt : nt ≤ 1048576) (hnr : nr ≤ 1048576) :
    Calls Try.prog 21 #[v, .slice T nt ct, .slice R nr cr] w0 fun e w' => ∃ v, e = .returned v ∧ aggF w0.heap.size (cengine (engRound m ts es)) v w' ∧ w0.grownBy w' none := by
  obtain ⟨A, B, C, D, E, a, b, c, d, e, rfl, hR⟩ := cengine_open h
  obtain ⟨wb, hwb⟩ : ∃ x : World, (w0.alloc (.cells #[.int .i64 m.k.p, .slice A m.k.al.length a, .int .i64 m.c.p, .slice B m.c.st.length b, .slice C m.c.outs.length c, .slice D m.vs.length d, .slice E m.op.length e, .int .i64 m.rd, .bool m.bad] 36)).alloc (.cells #[.int .i64 0, .slice none 0 0, .int .i64 0, .slice none 0 0, .slice none 0 0, .slice none 0 0, .slice none 0 0, .int .i64 0, .bool false] 36) = x := ⟨_, rfl⟩
  have GW : Hid (w0.grownBy wb none) := by rw [← hwb]; exact gbA (gbA (gbR _ _) _) _
  have zb : Hid (wb.heap.size = w0.heap.size + 2) := by rw [← hwb]; exact Lib.hid (by simp)
  have D1 : Hid (Blk wb w0.heap.size 36 #[.int .i64 m.k.p, .slice A m.k.al.length a, .int .i64 m.c.p, .slice B m.c.st.length b, .slice C m.c.outs.length c, .slice D m.vs.length d, .slice E m.op.length e, .int .i64 m.rd, .bool m.bad]) := by rw [← hwb]; exact (Blk.new w0 _ _).grow (gbA (gbR _ _) _)
  have D6 : Hid (Blk wb (w0.heap.size + 1) 36 #[.int .i64 0, .slice none 0 0, .int .i64 0, .slice none 0 0, .slice none 0 0, .slice none 0 0, .slice none 0 0, .int .i64 0, .bool false]) := by rw [← hwb]; exact Blk.new' _ _ _ _ (by simp)
  have R1 := Lib.hid (hR.grow GW.out)
  have WM := Lib.hid wm
  have WT := Lib.hid wt
  have TR := Lib.hid (CS.grow _ ht GW.out)
  have ER := Lib.hid (he.grow GW.out)
  have LT := Lib.hid (ctriples_len ht)
  clear h hR wm wt ht he
  go_enter Try.func21, Try.ntmps21
  have k0 := D1.out.cell 0
  have k1 := D1.out.cell 1
  have k2 := D1.out.cell 2
  have k3 := D1.out.cell 3
  have k4 := D1.out.cell 4
  have k5 := D1.out.cell 5
  have k6 := D1.out.cell 6
  have k7 := D1.out.cell 7
  have k8 := D1.out.cell 8
  simp only [List.getElem?_toArray, List.getElem?_cons_succ, List.getElem?_cons_zero] at k0 k1 k2 k3 k4 k5 k6 k7 k8
  go_wp2_with fail
  try rw [hwb]
  clear hwb k0 k1 k2 k3 k4 k5 k6 k7 k8
  refine (specl28Copy_c m _ wb R1.out.al9 WM.out.w).mono ?_
  rintro e' w2 ⟨v2, rfl, o2, g2⟩
  obtain ⟨F0, hA, hl0⟩ := o2
  obtain ⟨A', B', C', D', E', a', b', c', d', e', rfl, hR2⟩ := cengine_open hA.rd
  have D12 := Lib.hid (D1.out.grow g2)
  have D62 := Lib.hid (D6.out.grow g2)
  have G2 := Lib.hid g2
  have HA := Lib.hid hA
  have HL0 := Lib.hid hl0
  have k2 := D12.out.cell 2
  have k3 := D12.out.cell 3
  have k4 := D12.out.cell 4
  have k7 := D12.out.cell 7
  simp only [List.getElem?_toArray, List.getElem?_cons_succ, List.getElem?_cons_zero] at k2 k3 k4 k7
  have q2 := fun o => kA k2 o
  have q3 := fun o => kA k3 o
  have q4 := fun o => kA k4 o
  have q7 := fun o => kA k7 o
  clear hA hl0 hR2 g2
  go_wp2_with fail
  obtain ⟨w3, hw3⟩ : ∃ x : World, w2.alloc (.cells #[.int .i64 m.k.p, .slice A' m.k.al.length a', .int .i64 m.c.p, .slice B' m.c.st.length b', .slice C' m.c.outs.length c', .slice D' m.vs.length d', .slice E' m.op.length e', .int .i64 m.rd, .bool m.bad] 36) = x := ⟨_, rfl⟩
  have G3 : Hid (wb.grownBy w3 none) := by rw [← hw3]; exact gbA G2.out _
  obtain ⟨g, hg⟩ : ∃ x, w2.heap.size = x := ⟨_, rfl⟩
  have SG : Hid (SOF 36 (cengine m) g F0 w3) := by
    rw [← hw3, ← hg]
    exact Lib.hid (SOF.made (vs := [_, _, _, _, _, _, _, _, _]) (Blk.new w2 _ _) (HA.out.grow (gbA (gbR _ _) _)) (fun hx => by have := HA.out.lt _ hx; omega))
  have hgl : wb.heap.size ≤ g := by have := G2.out.size; omega
  rw [hw3]
  rw [hg]
  have DP := Lib.hid (show Blk w3 w0.heap.size 36 #[.int .i64 m.k.p, .slice A m.k.al.length a, .int .i64 m.c.p, .slice B m.c.st.length b, .slice C m.c.outs.length c, .slice D m.vs.length d, .slice E m.op.length e, .int .i64 m.rd, .bool m.bad] by rw [← hw3]; exact D12.out.grow (gbA (gbR _ _) _))
  have DR := Lib.hid (show Blk w3 (w0.heap.size + 1) 36 #[.int .i64 0, .slice none 0 0, .int .i64 0, .slice none 0 0, .slice none 0 0, .slice none 0 0, .slice none 0 0, .int .i64 0, .bool false] by rw [← hw3]; exact D62.out.grow (gbA (gbR _ _) _))
  clear hw3 hg k2 k3 k4 k7 q2 q3 q4 q7 D12 D62 HA G2
  obtain ⟨d, hd⟩ : ∃ d, wrap64 (m.rd + 1) = d := ⟨_, rfl⟩
  have HD : Hid (engOkB m = true → d = m.rd + 1) := Lib.hid (fun h => by
    have := inQ_is (engOk_is h).2.2.2.2.1
    rw [← hd]
    unfold wrap64
    omega)
  rw [hd]
  clear hd
  refine (specMulsAt_c m.c d _ w3 (R1.out.ar.grow G3.out) WM.out.c.wf).mono ?_
  rintro e' w4 ⟨vS, rfl, o4, g4⟩
  obtain ⟨ns, hns⟩ : ∃ n, (mulsAt m.c d).length = n := ⟨_, rfl⟩
  have hn60 : ns ≤ 60 := by rw [← hns]; exact mulsAt_few m.c d
  rw [hns] at o4
  obtain ⟨ss, hss⟩ : ∃ s, mulsAt m.c d = s := ⟨_, rfl⟩
  rw [hss] at o4 hns
  have HSS : Hid (engOkB m = true → ss = mulsOf m) := Lib.hid (fun h => by rw [← hss, HD.out h]; rfl)
  obtain ⟨S, cs, rfl, hSf, _⟩ := own_form o4
  have IS := Lib.hid (show Ints w4 S ns ss from Rd.ofOwn o4)
  have HSF := Lib.hid hSf
  have LS := Lib.hid hns
  have DP4 := Lib.hid (DP.out.grow g4)
  have DR4 := Lib.hid (DR.out.grow g4)
  have SG4 := Lib.hid (SG.out.grow g4)
  have G4 := Lib.hid (gbT G3.out g4)
  have LF0 := Lib.hid SG.out.lt
  have LG0 := Lib.hid SG.out.ltg
  have k0 := DP4.out.cell 0
  have k1 := DP4.out.cell 1
  have k2 := DP4.out.cell 2
  have k3 := DP4.out.cell 3
  have k4 := DP4.out.cell 4
  have k5 := DP4.out.cell 5
  have k6 := DP4.out.cell 6
  have k7 := DP4.out.cell 7
  have k8 := DP4.out.cell 8
  simp only [List.getElem?_toArray, List.getElem?_cons_succ, List.getElem?_cons_zero] at k0 k1 k2 k3 k4 k5 k6 k7 k8
  clear o4 hns hss g4 DP DR SG G3 HD hSf
  go_wp2_with fail
  clear k0 k1 k2 k3 k4 k5 k6 k7 k8
  refine (specl28May_c m ts es ss _ S T R ns cs nt ct nr cr w4 (R1.out.al9.grow G4.out) IS.out (CS.grow _ TR.out G4.out) (ER.out.grow G4.out) WM.out WT.out HSS.out hn60 hnt hnr).mono ?_
  rintro e' w5 ⟨rfl, g5⟩
  have DP5 := Lib.hid (DP4.out.grow g5)
  have DR5 := Lib.hid (DR4.out.grow g5)
  have SG5 := Lib.hid (SG4.out.grow g5)
  have IS5 := Lib.hid (IS.out.grow g5)
  have G5 := Lib.hid (gbT G4.out g5)
  have hz5 : w4.heap.size ≤ w5.heap.size := g5.size
  have hz4 := zb.out
  clear g5 DP4 DR4 SG4 IS
  cases hmay : mayB m ts es
  · have HRES : Hid (engRound m ts es = m) := by unfold Hid engRound; rw [hmay]; rfl
    clear hmay
    obtain ⟨A9, B9, C9, D9, E9, a9, b9, c9, d9, e9, hB9, hR9⟩ := SOF.eng (SG5.out)
    have HA9 := SOF.is (SG5.out) (us := [_, _, _, _, _, _, _, _, _]) hB9
    have b0 := hB9.cell 0
    have b1 := hB9.cell 1
    have b2 := hB9.cell 2
    have b3 := hB9.cell 3
    have b4 := hB9.cell 4
    have b5 := hB9.cell 5
    have b6 := hB9.cell 6
    have b7 := hB9.cell 7
    have b8 := hB9.cell 8
    have c0 := (DR5.out).cell 0
    have c1 := (DR5.out).cell 1
    have c2 := (DR5.out).cell 2
    have c3 := (DR5.out).cell 3
    have c4 := (DR5.out).cell 4
    have c5 := (DR5.out).cell 5
    have c6 := (DR5.out).cell 6
    have c7 := (DR5.out).cell 7
    have c8 := (DR5.out).cell 8
    have f0 := (DR5.out).frozen 0
    have f1 := (DR5.out).frozen 1
    have f2 := (DR5.out).frozen 2
    have f3 := (DR5.out).frozen 3
    have f4 := (DR5.out).frozen 4
    have f5 := (DR5.out).frozen 5
    have f6 := (DR5.out).frozen 6
    have f7 := (DR5.out).frozen 7
    have f8 := (DR5.out).frozen 8
    simp only [List.getElem?_toArray, List.getElem?_cons_succ, List.getElem?_cons_zero] at b0 b1 b2 b3 b4 b5 b6 b7 b8 c0 c1 c2 c3 c4 c5 c6 c7 c8
    have RS := SOF.store (DR5.out) (us := [.int .i64 (m).k.p, .slice A9 (m).k.al.length a9, .int .i64 (m).c.p, .slice B9 (m).c.st.length b9, .slice C9 (m).c.outs.length c9, .slice D9 (m).vs.length d9, .slice E9 (m).op.length e9, .int .i64 (m).rd, .bool (m).bad]) rfl HA9 (fun hx => by have := HL0.out _ hx; omega)
    have GS := gb_chg (gbT GW.out G5.out) (chg_setCells (w0.heap.size + 1) [.int .i64 (m).k.p, .slice A9 (m).k.al.length a9, .int .i64 (m).c.p, .slice B9 (m).c.st.length b9, .slice C9 (m).c.outs.length c9, .slice D9 (m).vs.length d9, .slice E9 (m).op.length e9, .int .i64 (m).rd, .bool (m).bad] 0 _) (by omega)
    simp only [setCells, Nat.zero_add, Nat.reduceAdd] at RS GS
    obtain ⟨vs9, hBR, hAR⟩ := RS.agg
    have HAR := Lib.hid hAR
    have HBR := Lib.hid hBR
    have GS := Lib.hid GS
    have HLF := Lib.hid (fun x hx => HL0.out x hx)
    clear hB9 hR9 HA9 RS hAR hBR
    go_wp2_with fail
    refine ret_c Try.results21 (by rfl) stEngine (cs := vs9.toArray) HBR.out (by rw [List.size_toArray]; exact agg_len HAR.out) (by rfl) ?_
    exact ⟨_, rfl, ⟨F0, by rw [HRES.out]; exact HAR.out, fun x hx => by have := HLF.out x hx; have := zb.out; omega⟩, GS.out⟩
  have HMAY := Lib.hid hmay
  clear hmay
  have MIS := Lib.hid (mayB_is HMAY.out)
  have HMO := HSS.out MIS.out.1
  subst HMO
  have HZ0 : w0.heap.size ≤ wb.heap.size := by have := zb.out; omega
  have HGA : Hid (∀ w', Chg (fun y => y = g ∨ y ∈ F0) w5 w' → wb.grownBy w' none) := Lib.hid (fun w' hc => gbChg G5.out hc (fun y hy => by
    rcases hy with rfl | hy
    · exact hgl
    · exact HL0.out y hy))
  have HSB : Hid (∀ ad, S = some ad → 0 < ns → ad.block ≠ g ∧ ad.block ∉ F0) := Lib.hid (fun ad e hp => by
    obtain ⟨_, _, h1, h2⟩ := HSF.out ad e
    exact ⟨fun h => by have := LG0.out; omega, fun h => by have := LF0.out _ h; omega⟩)
  have TRB : Hid (0 < nt → ∀ tb o, T = some ⟨tb, o, none⟩ → tb < wb.heap.size) := Lib.hid (fun hp tb o e => by
    obtain ⟨b1, o1, _, _, _, _, _, _, _, _, _, _, _, _, e1, h1, _⟩ := ctriples_at TR.out (k := 0) hp
    rw [e] at e1
    injection e1 with e1
    injection e1 with h9 _ _
    omega)
  have L60 : Hid ((mulsOf m).length ≤ 60) := Lib.hid (by rw [LS.out]; exact hn60)
  go_wp2_with fail
  refine (specl28Round_c m ts es g F0 S T R ns cs nt ct nr cr w5 SG5.out LS.out hn60 (fun w' hc => ⟨?_, CS.grow _ TR.out (HGA.out w' hc), ER.out.grow (HGA.out w' hc)⟩) (fun hp tb o e => ?_) WM.out WT.out HMAY.out hnt hnr).mono ?_
  · exact Chg.rdk (w := w5) (w' := w') IS5.out hc (fun hp b hb hs => by
      have h1 := HSB.out b hb (by have := LS.out; omega)
      rcases hs with h2 | h2
      · exact h1.1 h2
      · exact h1.2 h2)
  · have h1 := TRB.out hp tb o e
    refine ⟨by omega, fun h => ?_, by have := G5.out.size; omega⟩
    have := HL0.out _ h
    omega
  rintro e' w6 ⟨rfl, F', hS', hF', hC'⟩
  obtain ⟨M, hM⟩ : ∃ M, roundEnd m (roundTo m ts es (mulsOf m) (mulsOf m).length) = M := ⟨_, rfl⟩
  rw [hM] at hS'
  have HRES : Hid (engRound m ts es = M) := by unfold Hid engRound; rw [HMAY.out, if_pos rfl, hM]
  have WMM : Hid (ewfW M) := by
    rw [← hM]
    exact Lib.hid (ewfW_round WM.out WT.out HMAY.out)
  have SG6 := Lib.hid hS'
  have G6 := Lib.hid (HGA.out _ hC')
  have hC := Lib.hid hC'
  have HF' : Hid (∀ x ∈ F', wb.heap.size ≤ x) := Lib.hid (fun x hx => by
    rcases hF' x hx with h1 | h1
    · exact HL0.out x h1
    · have := G5.out.size; omega)
  have DR6 := Lib.hid (DR5.out.chg hC' (fun h => by
    rcases h with h1 | h1
    · omega
    · have := HL0.out _ h1; omega))
  clear hM hS' hF' hC'
  obtain ⟨A7, B7, C7, D7, E7, a7, b7, c7, d7, e7, hB7, hR7⟩ := SG6.out.eng
  have k0 := hB7.cell 0
  have k1 := hB7.cell 1
  have k2 := hB7.cell 2
  have k3 := hB7.cell 3
  have k4 := hB7.cell 4
  have k5 := hB7.cell 5
  have k6 := hB7.cell 6
  have k7 := hB7.cell 7
  have k8 := hB7.cell 8
  simp only [List.getElem?_toArray, List.getElem?_cons_succ, List.getElem?_cons_zero] at k0 k1 k2 k3 k4 k5 k6 k7 k8
  have R7 := Lib.hid hR7.al9
  clear hB7 hR7
  go_wp2_with fail
  clear k0 k1 k2 k3 k4 k5 k6 k7 k8
  refine (specl28Copy_c M _ w6 R7.out WMM.out).mono ?_
  rintro e' w7 ⟨v7, rfl, o7, g7⟩
  obtain ⟨A9, B9, C9, D9, E9, a9, b9, c9, d9, e9, rfl⟩ := o7.eng
  obtain ⟨F7, hA7, hl7⟩ := o7
  have DR7 := DR6.out.grow g7
  have c0 := DR7.cell 0
  have c1 := DR7.cell 1
  have c2 := DR7.cell 2
  have c3 := DR7.cell 3
  have c4 := DR7.cell 4
  have c5 := DR7.cell 5
  have c6 := DR7.cell 6
  have c7 := DR7.cell 7
  have c8 := DR7.cell 8
  have f0 := DR7.frozen 0
  have f1 := DR7.frozen 1
  have f2 := DR7.frozen 2
  have f3 := DR7.frozen 3
  have f4 := DR7.frozen 4
  have f5 := DR7.frozen 5
  have f6 := DR7.frozen 6
  have f7 := DR7.frozen 7
  have f8 := DR7.frozen 8
  simp only [List.getElem?_toArray, List.getElem?_cons_succ, List.getElem?_cons_zero] at c0 c1 c2 c3 c4 c5 c6 c7 c8
  have hgF := agg_ty (cengine_ty _) hA7 DR7 (by decide)
  have RS := SOF.store DR7 (us := [.int .i64 M.k.p, .slice A9 M.k.al.length a9, .int .i64 M.c.p, .slice B9 M.c.st.length b9, .slice C9 M.c.outs.length c9, .slice D9 M.vs.length d9, .slice E9 M.op.length e9, .int .i64 M.rd, .bool M.bad]) rfl hA7 hgF
  have GS := gb_chg (gbT GW.out (gbT G6.out g7)) (chg_setCells (w0.heap.size + 1) [.int .i64 M.k.p, .slice A9 M.k.al.length a9, .int .i64 M.c.p, .slice B9 M.c.st.length b9, .slice C9 M.c.outs.length c9, .slice D9 M.vs.length d9, .slice E9 M.op.length e9, .int .i64 M.rd, .bool M.bad] 0 w7) (by omega)
  simp only [setCells, Nat.zero_add, Nat.reduceAdd] at RS GS
  obtain ⟨vs9, hBR, hAR⟩ := RS.agg
  have HAR := Lib.hid hAR
  have HBR := Lib.hid hBR
  have GS := Lib.hid GS
  have HLF : Hid (∀ x ∈ F7, w0.heap.size ≤ x) := Lib.hid (fun x hx => by have := hl7 x hx; have := G6.out.size; omega)
  clear RS hAR hBR DR7 hA7 hl7 g7 hgF
  go_wp2_with fail
  refine ret_c Try.results21 (by rfl) stEngine (cs := vs9.toArray) HBR.out (by rw [List.size_toArray]; exact agg_len HAR.out) (by rfl) ?_
  exact ⟨_, rfl, ⟨F7, by rw [HRES.out]; exact HAR.out, HLF.out⟩, GS.out⟩
end Go.Proofs.Ythaadgdeadbhkaa
/-
  Costs: the walks of CostWithin and AddCosts, in the reference and in the program, and of the two laws.
-/
namespace Go.Proofs.Ythaadgdeadbhkaa
open Go.RowKit
set_option linter.unusedVariables false
set_option linter.unusedSimpArgs false
def costWithin (a1 a2 a3 a4 b1 b2 b3 b4 : Int) : Bool := decide (a1 ≤ b1) && decide (a2 ≤ b2) && decide (a3 ≤ b3) && decide (a4 ≤ b4)
theorem implCostWithin_c (a1 a2 a3 a4 b1 b2 b3 b4 : Int) (w : World) :
    Calls Try.prog 22 #[.agg #[.int .i64 a1, .int .i64 a2, .int .i64 a3, .int .i64 a4], .agg #[.int .i64 b1, .int .i64 b2, .int .i64 b3, .int .i64 b4]] w fun e w' => e = .returned (.bool (costWithin a1 a2 a3 a4 b1 b2 b3 b4)) ∧ w.grownBy w' none := by
  go_enter Try.func22, Try.ntmps22
  go_wp2_with fail
  all_goals
    go_ret
    exact ⟨retB (by simp [costWithin, *] <;> omega), gbA (gbA (gbR _ _) _) _⟩
theorem implAddCosts_c (a1 a2 a3 a4 b1 b2 b3 b4 : Int) (w : World) :
    Calls Try.prog 23 #[.agg #[.int .i64 a1, .int .i64 a2, .int .i64 a3, .int .i64 a4], .agg #[.int .i64 b1, .int .i64 b2, .int .i64 b3, .int .i64 b4]] w fun e w' => e = .returned (.agg #[.int .i64 (wrap64 (a1 + b1)), .int .i64 (wrap64 (a2 + b2)), .int .i64 (wrap64 (a3 + b3)), .int .i64 (wrap64 (a4 + b4))]) ∧ w.grownBy w' none := by
  go_enter Try.func23, Try.ntmps23
  go_wp2_with fail
  exact bodyPost_ret (by simp [results, Try.results23, go_sem]) rfl ⟨rfl, by repeat (first | exact gbR _ _ | refine gbA ?_ _)⟩
end Go.Proofs.Ythaadgdeadbhkaa
/-
  ArithCost, UsedErrors: reference and program.
-/
namespace Go.Proofs.Ythaadgdeadbhkaa
open Go.RowKit
set_option linter.unusedVariables false
set_option linter.unusedSimpArgs false
theorem stCost : St Try.prog 54 4 := ⟨⟨_, Try.underlying54, rfl⟩, by kernel_rfl⟩
set_option maxHeartbeats 1000000 in
theorem implArithCost_yes (m : AM) (v : Value) (w : World) (h : AggR w (carith m) v) (wf : m.wf) (hok : AOk m) :
    Calls Try.prog 19 #[v] w fun e w' => e = .returned (.agg #[.int .i64 (rounds m), .int .i64 (2 * (muls m.st m.st.length : Int)), .int .i64 (muls m.st m.st.length), .int .i64 0]) ∧ w.grownBy w' none := by
  have HV := Lib.hid h
  obtain ⟨u1, u2, rfl, h1, h2⟩ := carith_open h
  have HOK := Lib.hid hok
  have HW := Lib.hid wf
  have hmu : muls m.st m.st.length ≤ 60 := Nat.le_trans (muls_le _ _) hok.few
  have hrd := rounds_bd m
  clear h h1 h2 wf hok
  have A1 := Lib.hid ((Blk.new w 29 #[.int .i64 m.p, u1, u2]).grow (gbA (gbR _ none) (.cells #[.int .i64 0, .int .i64 0, .int .i64 0, .int .i64 0] 54)))
  have R1 := Lib.hid (Blk.new' (w.alloc (.cells #[.int .i64 m.p, u1, u2] 29)) 54 #[.int .i64 0, .int .i64 0, .int .i64 0, .int .i64 0] (w.heap.size + 1) (by simp))
  have G1 := Lib.hid (gbA (gbA (gbR w none) (.cells #[.int .i64 m.p, u1, u2] 29)) (.cells #[.int .i64 0, .int .i64 0, .int .i64 0, .int .i64 0] 54))
  go_enter Try.func19, Try.ntmps19
  go_wp2_with fail
  refine (implArithOk_c m _ _ (AggR.grow HV.out G1.out) HW.out).mono ?_
  rintro e w1 ⟨rfl, g⟩
  rw [arithB_yes HOK.out]
  have A2 := Lib.hid (A1.out.grow g)
  have R2 := Lib.hid (R1.out.grow g)
  have G2 := Lib.hid (gbT G1.out g)
  have k0 := A2.out.cell 0
  have k1 := A2.out.cell 1
  have k2 := A2.out.cell 2
  simp at k0 k1 k2
  clear g A1 R1 G1
  go_wp2_with fail
  refine (implCountMuls_c m _ _ (AggR.grow HV.out G2.out)).mono ?_
  rintro e w2 ⟨rfl, g⟩
  have A3 := Lib.hid (A2.out.grow g)
  have R3 := Lib.hid (R2.out.grow g)
  have G3 := Lib.hid (gbT G2.out g)
  clear g k0 k1 k2 A2 R2 G2
  have k0 := A3.out.cell 0
  have k1 := A3.out.cell 1
  have k2 := A3.out.cell 2
  simp at k0 k1 k2
  generalize hq : muls m.st m.st.length = q at *
  have HQ := Lib.hid hq
  clear hq
  go_wp2_with fail
  refine (implRoundsOf_c m _ _ (AggR.grow HV.out G3.out) HW.out).mono ?_
  rintro e w3 ⟨rfl, g⟩
  have R4 := Lib.hid (R3.out.grow g)
  have G4 := Lib.hid (gbT G3.out g)
  have s0 := R4.out.cell 0
  have s1 := R4.out.cell 1
  have s2 := R4.out.cell 2
  have s3 := R4.out.cell 3
  have t0 := R4.out.frozen 0
  have t1 := R4.out.frozen 1
  have t2 := R4.out.frozen 2
  have t3 := R4.out.frozen 3
  simp at s0 s1 s2 s3
  clear g k0 k1 k2 A3 R3 G3
  generalize hr : rounds m = r at *
  have HR := Lib.hid hr
  clear hr
  go_wp2_with fail
  refine ret_c Try.results19 (by rfl) stCost (cs := #[.int .i64 r, .int .i64 (2 * (q : Int)), .int .i64 q, .int .i64 0]) ?B (by rfl) (by rfl) ⟨by rw [HR.out, HQ.out], ?G⟩
  case B => exact (((R4.out.set_ 0 _).set_ 1 _).set_ 2 _).set_ 3 _
  case G => exact gbS (gbS (gbS (gbS G4.out (p := ⟨w.heap.size + 1, 0, none⟩) (by simp) _) (p := ⟨w.heap.size + 1, 1, none⟩) (by simp) _) (p := ⟨w.heap.size + 1, 2, none⟩) (by simp) _) (p := ⟨w.heap.size + 1, 3, none⟩) (by simp) _
theorem Ints.take {w : World} {A : Option Addr} {n : Nat} {zs : List Int} (h : Ints w A n zs) {k : Nat} (hk : k ≤ n) : Ints w A k (zs.take k) := by
  have hl := h.len
  refine ⟨by simp; omega, fun hp => ?_⟩
  obtain ⟨b, o, e, hb, hc⟩ := h.at_ (by omega)
  refine ⟨b, o, e, hb, fun j hj => ?_⟩
  rw [hc j (by omega), List.getElem?_map, List.getElem?_take, if_pos (by omega), List.getElem?_eq_getElem (by omega), getI _ _ (by omega)]
  rfl
end Go.Proofs.Ythaadgdeadbhkaa
