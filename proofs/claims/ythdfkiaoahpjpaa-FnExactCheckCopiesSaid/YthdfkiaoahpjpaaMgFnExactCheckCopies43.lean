/-
  CheckCopies of the reference: the answer for all arguments.
-/
import Derived.Test.YthdfkiaoahpjpaaMgFnExactCheckCopies42
namespace Go.Proofs.Ythdfkiaoahpjpaa
open Go.RowKit
set_option linter.unusedVariables false
set_option linter.unusedSimpArgs false
theorem sT_nil : stables [] := fun R hR => by simp at hR
theorem sT_cons {R : Value → World → Prop} {T : List (Value → World → Prop)} (h : stable R) (k : stables T) : stables (R :: T) := fun Q hQ => by
  rcases List.mem_cons.1 hQ with rfl | hQ
  · exact h
  · exact k Q hQ
theorem copN_at {m : CM} {ss : List Int} {k s : Nat} (h : ss[k]? = some (s : Int)) : pbAt (copN m ss) k = pubN m s := by
  unfold pbAt copN
  rw [List.getD_eq_getElem?_getD, List.getElem?_map, h]
  rfl
theorem chkR_bad {m : CM} {cs : List PbM} {ss : List Int} {ch : List Bool} (h : ¬ askB m ss) : chkR m cs ss ch = -1 := by
  by_cases g : cs.length = ss.length ∧ cs.length = ch.length ∧ (cpsR m ss).length = cs.length
  · rw [chkR_yes g]
    refine firstB_none fun j hj => ?_
    have h1 := g.2.2
    rw [cpsR_no h] at h1
    have h2 := g.2.1
    rw [List.length_nil] at h1
    omega
  · exact chkR_no g
theorem chkR_ask {m : CM} {cs : List PbM} {ss : List Int} {ch : List Bool} (h : askB m ss) (h1 : cs.length = ss.length) (h2 : cs.length = ch.length) : chkR m cs ss ch = firstB (badAt cs (copN m ss) ch) ch.length := by
  rw [chkR_yes ⟨h1, h2, by rw [cpsR_yes h, copN_len, h1]⟩, cpsR_yes h]
set_option maxHeartbeats 1600000 in
set_option maxRecDepth 100000 in
theorem specCheckCopies_c (m : CM) (cs : List PbM) (ss : List Int) (ch : List Bool) (v vc u vb : Value) (w0 : World) (h : AggR w0 (ccircuit m) v) (hcc : (cpubs cs).rd w0 vc) (hu : (cints ss).rd w0 u) (hb : (cbools ch).rd w0 vb) (hql : m.outs.length ≤ 1048576) (hsm : ∀ x ∈ cs, pbS x) :
    Calls Try.prog 39 #[v, vc, u, vb] w0 fun e w' => e = .returned (.int .i64 (chkR m cs ss ch)) ∧ w0.grownBy w' none := by
  have HQL := Lib.hid hql
  have HU0 := Lib.hid hu
  have HC0 := Lib.hid hcc
  have HSM := Lib.hid hsm
  obtain ⟨C, cC, rfl, hcC, hmC⟩ := cps_rd hcc
  obtain ⟨T, cT, rfl, hcT, hmT, hT⟩ := cbools_rd hb
  unfold maxLen at hmC hmT
  obtain ⟨p, hp⟩ : ∃ p, cs.length = p := ⟨_, rfl⟩
  obtain ⟨t, ht⟩ : ∃ t, ch.length = t := ⟨_, rfl⟩
  rw [hp] at HC0 hcC ⊢
  rw [ht] at hT hcT ⊢
  have HP := Lib.hid hp
  have HT := Lib.hid ht
  have IT := Lib.hid hT
  clear hcc hb hT hp ht hsm
  obtain ⟨u0, u1, rfl, h1, h2⟩ := ccircuit_open h
  obtain ⟨A, cA, rfl, hc, hm, hF⟩ := plst_rd (s := 3) (fun _ => rfl) (by omega) h1
  obtain ⟨B, cB, rfl, _, _, hB⟩ := cints_rd h2
  obtain ⟨S, cS, rfl, hcS, hmS, hS⟩ := cints_rd hu
  unfold maxLen at hmS
  obtain ⟨q, hq⟩ : ∃ q, m.outs.length = q := ⟨_, rfl⟩
  obtain ⟨n, hn⟩ : ∃ n, m.gt.length = n := ⟨_, rfl⟩
  obtain ⟨r, hr⟩ : ∃ r, ss.length = r := ⟨_, rfl⟩
  have HV := Lib.hid (show AggR w0 (ccircuit m) (.agg #[.slice A n cA, .slice B q cB]) by rw [← hn, ← hq]; exact h)
  rw [hn, hq, hr]
  rw [hr] at hS hcS
  have HR := Lib.hid hr
  have IS := Lib.hid hS
  clear h h1 h2 hF hB hS hu hn hr hc hm
  obtain ⟨w1, hw1⟩ : ∃ x : World, w0.alloc (.cells #[.slice A n cA, .slice B q cB] 28) = x := ⟨_, rfl⟩
  have G1 : Hid (w0.grownBy w1 none) := by rw [← hw1]; exact Lib.hid (gbA (gbR _ _) _)
  have D1 : Hid (Blk w1 w0.heap.size 28 #[.slice A n cA, .slice B q cB]) := by rw [← hw1]; exact Lib.hid (Blk.new w0 _ _)
  have HU : Hid ((cints ss).rd w0 (.slice S r cS)) := by rw [← HR.out]; exact HU0
  clear hq hql HU0
  go_enter Try.func39, Try.ntmps39
  have sq : ∀ (x : Nat), ((x : Int) != (x : Int)) = false := fun x => by simp
  by_cases e1 : p = r
  · by_cases e2 : p = t
    · subst e1
      subst e2
      have n1 := sq p
      have c0 := D1.out.cell 0
      have c1 := D1.out.cell 1
      simp at c0 c1
      by_cases ask : askB m ss
      · have HASK := Lib.hid (askQ_yes ask)
        have ASK := Lib.hid ask
        have HR' : Hid (chkR m cs ss ch = firstB (badAt cs (copN m ss) ch) p) := by rw [chkR_ask ask (by rw [HP.out, HR.out]) (by rw [HP.out, HT.out]), HT.out]; exact Lib.hid rfl
        clear ask sq
        go_wp2_with (go_at_call 72; refine (specl32Ask_c m ss _ _ w1 (HV.out.grow G1.out) ((cints ss).grow HU.out G1.out)).mono ?_; rintro e w2 ⟨rfl, g2⟩; rw [HASK.out])
        have G2 := Lib.hid (gbT G1.out g2)
        have D2 := Lib.hid (D1.out.grow g2)
        clear c0 c1 D1 G1 g2
        go_loopw [9] (fun i wr => ∃ k : Nat, k ≤ p ∧ i = .int .i64 k ∧ Hid (∀ j, j < k → badAt cs (copN m ss) ch j = false) ∧ Hid (w2.grownBy wr none)) (fun i _ => p - (intOf i).toNat)
        case atStart => exact ⟨0, Nat.zero_le _, rfl, Lib.hid (fun j hj => by omega), gbR _ _⟩
        case round =>
          obtain ⟨k, hk, rfl, hall, GR⟩ := hrel
          by_cases hlt : k < p
          · have i1 : (k : Int) < (p : Int) := by omega
            obtain ⟨bt, ot, rfl, hbt, qt⟩ := IT.out.at_ (by omega)
            have kt := gbk (gbT G2.out GR.out) (qt k hlt)
            obtain ⟨b, hb⟩ : ∃ b, ch.getD k false = b := ⟨_, rfl⟩
            rw [hb] at kt
            have HB := Lib.hid hb
            have KT := Lib.hid kt
            clear hb qt kt
            go_wp2_with fail
            cases b with
            | false =>
              refine region_grow [isV (.slice (some ⟨bt, ot, none⟩) p cT), isV (.int .i64 k), isV (.pointer (some ⟨bt, ot + k, none⟩)), isV (.bool false), isV (.bool false), isV (undef), isV (undef), isV (undef), isV (undef), isV (undef), isV (undef), isV (undef), isV (undef), isV (undef), isV (undef), isV (undef), isV (undef), isV (.bool false)] (by kernel_rfl) (by kernel_rfl) (by kernel_rfl) (by simp [stables, isV_st]) ?_ ?_
              · simp only [hops, and_true]
                refine ⟨?_, ?_, ?_, ?_, ?_, ?_, ?_, ?_, ?_, ?_, ?_, ?_, ?_, ?_, ?_, ?_, ?_, ?_⟩
                · intro f w1 hG hd
                  have hg4 := gbT (gbD (gbR wr none)) hG
                  simp [deps, tAt, isV] at hd
                  first | simp [puts, dsts, Act.put, hd] | simp [puts, dsts, Act.put]
                  clear hd
                  go_wp2_with fail
                  exact ⟨_, rfl, by with_reducible exact gbR _ _, by simp [tAt, isV]⟩
                · intro f w1 hG hd
                  have hg4 := gbT (gbD (gbR wr none)) hG
                  simp [deps, tAt, isV] at hd
                  first | simp [puts, dsts, Act.put, hd] | simp [puts, dsts, Act.put]
                  clear hd
                  go_wp2_with fail
                  exact ⟨_, rfl, by with_reducible exact gbR _ _, by simp [tAt, isV]⟩
                · intro f w1 hG hd
                  have hg4 := gbT (gbD (gbR wr none)) hG
                  simp [deps, tAt, isV] at hd
                  first | simp [puts, dsts, Act.put, hd] | simp [puts, dsts, Act.put]
                  clear hd
                  go_wp2_with fail
                  exact ⟨_, rfl, by with_reducible exact gbR _ _, by simp [tAt, isV]⟩
                · intro f w1 hG hd
                  have hg4 := gbT (gbD (gbR wr none)) hG
                  have k0 := gbk hg4 (KT.out)
                  simp [deps, tAt, isV] at hd
                  first | simp [puts, dsts, Act.put, hd] | simp [puts, dsts, Act.put]
                  clear hd
                  go_wp2_with fail
                  exact ⟨_, rfl, by with_reducible exact gbR _ _, by simp [tAt, isV]⟩
                · intro f w1 hG hd
                  have hg4 := gbT (gbD (gbR wr none)) hG
                  simp [deps, tAt, isV] at hd
                  first | simp [puts, dsts, Act.put, hd] | simp [puts, dsts, Act.put]
                  clear hd
                  go_wp2_with fail
                  exact ⟨_, rfl, by with_reducible exact gbR _ _, by simp [tAt, isV]⟩
                · intro f w1 hG hd
                  have hg4 := gbT (gbD (gbR wr none)) hG
                  simp [deps, tAt, isV] at hd
                  first | simp [puts, dsts, Act.put, hd] | simp [puts, dsts, Act.put]
                  clear hd
                  go_wp2_with fail
                  exact ⟨_, rfl, by with_reducible exact gbR _ _, by simp [tAt, isV]⟩
                · intro f w1 hG hd
                  have hg4 := gbT (gbD (gbR wr none)) hG
                  simp [deps, tAt, isV] at hd
                  first | simp [puts, dsts, Act.put, hd] | simp [puts, dsts, Act.put]
                  clear hd
                  go_wp2_with fail
                  exact ⟨_, rfl, by with_reducible exact gbR _ _, by simp [tAt, isV]⟩
                · intro f w1 hG hd
                  have hg4 := gbT (gbD (gbR wr none)) hG
                  simp [deps, tAt, isV] at hd
                  first | simp [puts, dsts, Act.put, hd] | simp [puts, dsts, Act.put]
                  clear hd
                  go_wp2_with fail
                  exact ⟨_, rfl, by with_reducible exact gbR _ _, by simp [tAt, isV]⟩
                · intro f w1 hG hd
                  have hg4 := gbT (gbD (gbR wr none)) hG
                  simp [deps, tAt, isV] at hd
                  first | simp [puts, dsts, Act.put, hd] | simp [puts, dsts, Act.put]
                  clear hd
                  go_wp2_with fail
                  exact ⟨_, rfl, by with_reducible exact gbR _ _, by simp [tAt, isV]⟩
                · intro f w1 hG hd
                  have hg4 := gbT (gbD (gbR wr none)) hG
                  simp [deps, tAt, isV] at hd
                  first | simp [puts, dsts, Act.put, hd] | simp [puts, dsts, Act.put]
                  clear hd
                  go_wp2_with fail
                  exact ⟨_, rfl, by with_reducible exact gbR _ _, by simp [tAt, isV]⟩
                · intro f w1 hG hd
                  have hg4 := gbT (gbD (gbR wr none)) hG
                  simp [deps, tAt, isV] at hd
                  first | simp [puts, dsts, Act.put, hd] | simp [puts, dsts, Act.put]
                  clear hd
                  go_wp2_with fail
                  exact ⟨_, rfl, by with_reducible exact gbR _ _, by simp [tAt, isV]⟩
                · intro f w1 hG hd
                  have hg4 := gbT (gbD (gbR wr none)) hG
                  simp [deps, tAt, isV] at hd
                  first | simp [puts, dsts, Act.put, hd] | simp [puts, dsts, Act.put]
                  clear hd
                  go_wp2_with fail
                  exact ⟨_, rfl, by with_reducible exact gbR _ _, by simp [tAt, isV]⟩
                · intro f w1 hG hd
                  have hg4 := gbT (gbD (gbR wr none)) hG
                  simp [deps, tAt, isV] at hd
                  first | simp [puts, dsts, Act.put, hd] | simp [puts, dsts, Act.put]
                  clear hd
                  go_wp2_with fail
                  exact ⟨_, rfl, by with_reducible exact gbR _ _, by simp [tAt, isV]⟩
                · intro f w1 hG hd
                  have hg4 := gbT (gbD (gbR wr none)) hG
                  simp [deps, tAt, isV] at hd
                  first | simp [puts, dsts, Act.put, hd] | simp [puts, dsts, Act.put]
                  clear hd
                  go_wp2_with fail
                  exact ⟨_, rfl, by with_reducible exact gbR _ _, by simp [tAt, isV]⟩
                · intro f w1 hG hd
                  have hg4 := gbT (gbD (gbR wr none)) hG
                  simp [deps, tAt, isV] at hd
                  first | simp [puts, dsts, Act.put, hd] | simp [puts, dsts, Act.put]
                  clear hd
                  go_wp2_with fail
                  exact ⟨_, rfl, by with_reducible exact gbR _ _, by simp [tAt, isV]⟩
                · intro f w1 hG hd
                  have hg4 := gbT (gbD (gbR wr none)) hG
                  simp [deps, tAt, isV] at hd
                  first | simp [puts, dsts, Act.put, hd] | simp [puts, dsts, Act.put]
                  clear hd
                  go_wp2_with fail
                  exact ⟨_, rfl, by with_reducible exact gbR _ _, by simp [tAt, isV]⟩
                · intro f w1 hG hd
                  have hg4 := gbT (gbD (gbR wr none)) hG
                  simp [deps, tAt, isV] at hd
                  first | simp [puts, dsts, Act.put, hd] | simp [puts, dsts, Act.put]
                  clear hd
                  go_wp2_with fail
                  exact ⟨_, rfl, by with_reducible exact gbR _ _, by simp [tAt, isV]⟩
                · intro f w1 hG hd
                  have hg4 := gbT (gbD (gbR wr none)) hG
                  simp [deps, tAt, isV] at hd
                  first | simp [puts, dsts, Act.put, hd] | simp [puts, dsts, Act.put]
                  clear hd
                  go_wp2_with fail
                  exact ⟨_, rfl, by with_reducible exact gbR _ _, by simp [tAt, isV]⟩
              intro f w5 hG hd
              simp [knows, tAt, isV] at hd
              obtain ⟨h0_, h1_, h2_, h3_, h4_, h5_, h6_, h7_, h8_, h9_, h10_, h11_, h12_, h13_, h14_, h15_, h16_, h17_⟩ := hd
              simp only [puts, dsts, Act.put, h0_, h1_, h2_, h3_, h4_, h5_, h6_, h7_, h8_, h9_, h10_, h11_, h12_, h13_, h14_, h15_, h16_, h17_, List.filterMap_cons, List.filterMap_nil, List.setIfInBounds_toArray, List.set_cons_zero, List.set_cons_succ]
              clear h0_ h1_ h2_ h3_ h4_ h5_ h6_ h7_ h8_ h9_ h10_ h11_ h12_ h13_ h14_ h15_ h16_ h17_
              have g5 := gbT (gbD (gbR wr none)) hG
              clear hG
              have G5 := Lib.hid (gbT GR.out g5)
              have HBA : Hid (badAt cs (copN m ss) ch k = false) := by unfold badAt; rw [HB.out]; exact Lib.hid rfl
              clear g5
              go_wp2_with fail
              go_roundw
              case rel => exact ⟨k + 1, by omega, by go_num, Lib.hid (fun j hj => by
                by_cases e : j = k
                · subst e; exact HBA.out
                · exact hall.out j (by omega)), G5⟩
              case measure => simp [intOf]; omega
            | true =>
              obtain ⟨bc, oc, X0, X1, X2, x0, x1, x2, rfl, _, q0, q1, q2, qr⟩ := cpubs_at (CS.grow _ HC0.out (gbT G2.out GR.out)) hlt
              obtain ⟨bb, ob, rfl, hbb, qb⟩ := IS.out.cell hlt
              have kb := gbk (gbT G2.out GR.out) qb
              have hw := ASK.out.2.2 (ss.getD k 0) (by rw [getI _ _ (by rw [HR.out]; exact hlt)]; exact List.getElem_mem _)
              obtain ⟨s, hs, hs6⟩ := word_nat hw
              have hsk : ss[k]? = some (s : Int) := by rw [← hs, getI _ _ (by rw [HR.out]; exact hlt)]; exact List.getElem?_eq_getElem _
              rw [hs] at kb
              have c0 := (D2.out.grow GR.out).cell 0
              have c1 := (D2.out.grow GR.out).cell 1
              simp at c0 c1
              have C0 := Lib.hid c0
              have C1 := Lib.hid c1
              have KB := Lib.hid kb
              have HS6 := Lib.hid hs6
              have SX := Lib.hid (pbAt_all HSM.out (k := k) (by rw [HP.out]; exact hlt))
              have SY := Lib.hid (pubN_small m s ASK.out.1.few HQL.out)
              obtain ⟨sm, hsm⟩ : ∃ b, sameP (pbAt cs k) (pubN m s) = b := ⟨_, rfl⟩
              have HBA : Hid (badAt cs (copN m ss) ch k = !sm) := by unfold badAt; rw [HB.out, copN_at hsk, hsm]; exact Lib.hid rfl
              have HS := Lib.hid hsm
              generalize pbAt cs k = px at *
              generalize px.ts.length = a0 at *
              generalize px.cs.length = a1 at *
              generalize px.ds.length = a2 at *
              have Q0 := Lib.hid q0
              have Q1 := Lib.hid q1
              have Q2 := Lib.hid q2
              have QR := Lib.hid qr
              clear q0 q1 q2 qr hsm c0 c1 kb qb hw hs hsk
              cases sm with
              | false =>
                refine region_grow [isV (.slice (some ⟨bt, ot, none⟩) p cT), isV (.int .i64 k), isV (.pointer (some ⟨bt, ot + k, none⟩)), isV (.bool true), isV (.bool true), isV (.slice (some ⟨bc, oc, none⟩) p cC), isV (.int .i64 k), isV (.pointer (some ⟨bc, oc + k * 3, none⟩)), isV (.agg #[.slice X0 a0 x0, .slice X1 a1 x1, .slice X2 a2 x2]), isV (.agg #[.slice A n cA, .slice B q cB]), isV (.slice (some ⟨bb, ob, none⟩) p cS), isV (.int .i64 k), isV (.pointer (some ⟨bb, ob + k, none⟩)), isV (.int .i64 s), aggF 0 (cpb (pubN m s)), isV (.bool false), isV (.bool true), isV (.bool true)] (by kernel_rfl) (by kernel_rfl) (by kernel_rfl) (sT_cons (isV_st _) (sT_cons (isV_st _) (sT_cons (isV_st _) (sT_cons (isV_st _) (sT_cons (isV_st _) (sT_cons (isV_st _) (sT_cons (isV_st _) (sT_cons (isV_st _) (sT_cons (isV_st _) (sT_cons (isV_st _) (sT_cons (isV_st _) (sT_cons (isV_st _) (sT_cons (isV_st _) (sT_cons (isV_st _) (sT_cons (aggF_st) (sT_cons (isV_st _) (sT_cons (isV_st _) (sT_cons (isV_st _) sT_nil)))))))))))))))))) ?_ ?_
                · simp only [hops, and_true]
                  refine ⟨?_, ?_, ?_, ?_, ?_, ?_, ?_, ?_, ?_, ?_, ?_, ?_, ?_, ?_, ?_, ?_, ?_, ?_⟩
                  · intro f w1 hG hd
                    have hg4 := gbT (gbD (gbR wr none)) hG
                    simp [deps, tAt, isV] at hd
                    first | simp [puts, dsts, Act.put, hd] | simp [puts, dsts, Act.put]
                    clear hd
                    go_wp2_with fail
                    exact ⟨_, rfl, by with_reducible exact gbR _ _, by simp [tAt, isV]⟩
                  · intro f w1 hG hd
                    have hg4 := gbT (gbD (gbR wr none)) hG
                    simp [deps, tAt, isV] at hd
                    first | simp [puts, dsts, Act.put, hd] | simp [puts, dsts, Act.put]
                    clear hd
                    go_wp2_with fail
                    exact ⟨_, rfl, by with_reducible exact gbR _ _, by simp [tAt, isV]⟩
                  · intro f w1 hG hd
                    have hg4 := gbT (gbD (gbR wr none)) hG
                    simp [deps, tAt, isV] at hd
                    first | simp [puts, dsts, Act.put, hd] | simp [puts, dsts, Act.put]
                    clear hd
                    go_wp2_with fail
                    exact ⟨_, rfl, by with_reducible exact gbR _ _, by simp [tAt, isV]⟩
                  · intro f w1 hG hd
                    have hg4 := gbT (gbD (gbR wr none)) hG
                    have k0 := gbk hg4 (KT.out)
                    simp [deps, tAt, isV] at hd
                    first | simp [puts, dsts, Act.put, hd] | simp [puts, dsts, Act.put]
                    clear hd
                    go_wp2_with fail
                    exact ⟨_, rfl, by with_reducible exact gbR _ _, by simp [tAt, isV]⟩
                  · intro f w1 hG hd
                    have hg4 := gbT (gbD (gbR wr none)) hG
                    simp [deps, tAt, isV] at hd
                    first | simp [puts, dsts, Act.put, hd] | simp [puts, dsts, Act.put]
                    clear hd
                    go_wp2_with fail
                    exact ⟨_, rfl, by with_reducible exact gbR _ _, by simp [tAt, isV]⟩
                  · intro f w1 hG hd
                    have hg4 := gbT (gbD (gbR wr none)) hG
                    simp [deps, tAt, isV] at hd
                    first | simp [puts, dsts, Act.put, hd] | simp [puts, dsts, Act.put]
                    clear hd
                    go_wp2_with fail
                    exact ⟨_, rfl, by with_reducible exact gbR _ _, by simp [tAt, isV]⟩
                  · intro f w1 hG hd
                    have hg4 := gbT (gbD (gbR wr none)) hG
                    simp [deps, tAt, isV] at hd
                    first | simp [puts, dsts, Act.put, hd] | simp [puts, dsts, Act.put]
                    clear hd
                    go_wp2_with fail
                    exact ⟨_, rfl, by with_reducible exact gbR _ _, by simp [tAt, isV]⟩
                  · intro f w1 hG hd
                    have hg4 := gbT (gbD (gbR wr none)) hG
                    simp [deps, tAt, isV] at hd
                    first | simp [puts, dsts, Act.put, hd] | simp [puts, dsts, Act.put]
                    clear hd
                    go_wp2_with fail
                    exact ⟨_, rfl, by with_reducible exact gbR _ _, by simp [tAt, isV]⟩
                  · intro f w1 hG hd
                    have hg4 := gbT (gbD (gbR wr none)) hG
                    have k1 := gbk hg4 (Q0.out)
                    have k2 := gbk hg4 (Q1.out)
                    have k3 := gbk hg4 (Q2.out)
                    simp [deps, tAt, isV] at hd
                    first | simp [puts, dsts, Act.put, hd] | simp [puts, dsts, Act.put]
                    clear hd
                    go_wp2_with fail
                    exact ⟨_, rfl, by with_reducible exact gbR _ _, by simp [tAt, isV]⟩
                  · intro f w1 hG hd
                    have hg4 := gbT (gbD (gbR wr none)) hG
                    have k4 := gbk hg4 (C0.out)
                    have k5 := gbk hg4 (C1.out)
                    simp [deps, tAt, isV] at hd
                    first | simp [puts, dsts, Act.put, hd] | simp [puts, dsts, Act.put]
                    clear hd
                    go_wp2_with fail
                    exact ⟨_, rfl, by with_reducible exact gbR _ _, by simp [tAt, isV]⟩
                  · intro f w1 hG hd
                    have hg4 := gbT (gbD (gbR wr none)) hG
                    simp [deps, tAt, isV] at hd
                    first | simp [puts, dsts, Act.put, hd] | simp [puts, dsts, Act.put]
                    clear hd
                    go_wp2_with fail
                    exact ⟨_, rfl, by with_reducible exact gbR _ _, by simp [tAt, isV]⟩
                  · intro f w1 hG hd
                    have hg4 := gbT (gbD (gbR wr none)) hG
                    simp [deps, tAt, isV] at hd
                    first | simp [puts, dsts, Act.put, hd] | simp [puts, dsts, Act.put]
                    clear hd
                    go_wp2_with fail
                    exact ⟨_, rfl, by with_reducible exact gbR _ _, by simp [tAt, isV]⟩
                  · intro f w1 hG hd
                    have hg4 := gbT (gbD (gbR wr none)) hG
                    simp [deps, tAt, isV] at hd
                    first | simp [puts, dsts, Act.put, hd] | simp [puts, dsts, Act.put]
                    clear hd
                    go_wp2_with fail
                    exact ⟨_, rfl, by with_reducible exact gbR _ _, by simp [tAt, isV]⟩
                  · intro f w1 hG hd
                    have hg4 := gbT (gbD (gbR wr none)) hG
                    have k6 := gbk hg4 (KB.out)
                    simp [deps, tAt, isV] at hd
                    first | simp [puts, dsts, Act.put, hd] | simp [puts, dsts, Act.put]
                    clear hd
                    go_wp2_with fail
                    exact ⟨_, rfl, by with_reducible exact gbR _ _, by simp [tAt, isV]⟩
                  · intro f w1 hG hd
                    have hg4 := gbT (gbD (gbR wr none)) hG
                    simp [deps, tAt, isV] at hd
                    first | simp [puts, dsts, Act.put, hd] | simp [puts, dsts, Act.put]
                    clear hd
                    go_wp2_with fail
                    refine (specl32One_c m s _ w1 (HV.out.grow (gbT G2.out (gbT GR.out hg4))) ASK.out.1 HQL.out HS6.out).mono ?_
                    rintro e' w6 ⟨v6, rfl, o6, g6⟩
                    have O6 := Lib.hid (aggF.lo o6 (Nat.zero_le _))
                    have G6' := Lib.hid g6
                    clear o6 g6
                    go_wp2_with fail
                    exact ⟨_, rfl, G6'.out, O6.out⟩
                  · intro f w1 hG hd
                    have hg4 := gbT (gbD (gbR wr none)) hG
                    simp [deps, tAt, isV] at hd
                    have e42 := hd.1
                    have h48 : aggF 0 (cpb (pubN m s)) (f 48) w1 := by first | exact hd.2 | exact hd.2.1
                    have e38 : f 38 = .bool true := by first | exact hd.2.2 | exact hd.2.2.2 | exact hd.2.2.2.2
                    clear hd
                    have H48 := Lib.hid (aggF.rd h48)
                    clear h48
                    simp [puts, dsts, Act.put, e42, e38]
                    clear e42 e38
                    go_wp2_with fail
                    refine (l29SameP_c px (pubN m s) _ _ w1 SX.out SY.out (QR.out.grow hg4) H48.out).mono ?_
                    rintro e' w6 ⟨rfl, hw⟩
                    rw [HS.out]
                    go_wp2_with fail
                    exact ⟨_, rfl, hw, rfl⟩
                  · intro f w1 hG hd
                    have hg4 := gbT (gbD (gbR wr none)) hG
                    simp [deps, tAt, isV] at hd
                    first | simp [puts, dsts, Act.put, hd] | simp [puts, dsts, Act.put]
                    clear hd
                    go_wp2_with fail
                    exact ⟨_, rfl, by with_reducible exact gbR _ _, by simp [tAt, isV]⟩
                  · intro f w1 hG hd
                    have hg4 := gbT (gbD (gbR wr none)) hG
                    simp [deps, tAt, isV] at hd
                    first | simp [puts, dsts, Act.put, hd] | simp [puts, dsts, Act.put]
                    clear hd
                    go_wp2_with fail
                    exact ⟨_, rfl, by with_reducible exact gbR _ _, by simp [tAt, isV]⟩
                intro f w5 hG hd
                simp [knows, tAt, isV] at hd
                obtain ⟨h0_, h1_, h2_, h3_, h4_, h5_, h6_, h7_, h8_, h9_, h10_, h11_, h12_, h13_, h14_, h15_, h16_, h17_⟩ := hd
                simp only [puts, dsts, Act.put, h0_, h1_, h2_, h3_, h4_, h5_, h6_, h7_, h8_, h9_, h10_, h11_, h12_, h13_, h14_, h15_, h16_, h17_, List.filterMap_cons, List.filterMap_nil, List.setIfInBounds_toArray, List.set_cons_zero, List.set_cons_succ]
                clear h0_ h1_ h2_ h3_ h4_ h5_ h6_ h7_ h8_ h9_ h10_ h11_ h12_ h13_ h14_ h15_ h16_ h17_
                have g5 := gbT (gbD (gbR wr none)) hG
                clear hG
                have G5 := Lib.hid (gbT GR.out g5)
                clear g5
                go_wp2_with fail
                go_ret
                exact ⟨by rw [HR'.out, firstB_some hall.out HBA.out hlt]; rfl, gbT G2.out G5.out⟩
              | true =>
                refine region_grow [isV (.slice (some ⟨bt, ot, none⟩) p cT), isV (.int .i64 k), isV (.pointer (some ⟨bt, ot + k, none⟩)), isV (.bool true), isV (.bool true), isV (.slice (some ⟨bc, oc, none⟩) p cC), isV (.int .i64 k), isV (.pointer (some ⟨bc, oc + k * 3, none⟩)), isV (.agg #[.slice X0 a0 x0, .slice X1 a1 x1, .slice X2 a2 x2]), isV (.agg #[.slice A n cA, .slice B q cB]), isV (.slice (some ⟨bb, ob, none⟩) p cS), isV (.int .i64 k), isV (.pointer (some ⟨bb, ob + k, none⟩)), isV (.int .i64 s), aggF 0 (cpb (pubN m s)), isV (.bool true), isV (.bool false), isV (.bool false)] (by kernel_rfl) (by kernel_rfl) (by kernel_rfl) (sT_cons (isV_st _) (sT_cons (isV_st _) (sT_cons (isV_st _) (sT_cons (isV_st _) (sT_cons (isV_st _) (sT_cons (isV_st _) (sT_cons (isV_st _) (sT_cons (isV_st _) (sT_cons (isV_st _) (sT_cons (isV_st _) (sT_cons (isV_st _) (sT_cons (isV_st _) (sT_cons (isV_st _) (sT_cons (isV_st _) (sT_cons (aggF_st) (sT_cons (isV_st _) (sT_cons (isV_st _) (sT_cons (isV_st _) sT_nil)))))))))))))))))) ?_ ?_
                · simp only [hops, and_true]
                  refine ⟨?_, ?_, ?_, ?_, ?_, ?_, ?_, ?_, ?_, ?_, ?_, ?_, ?_, ?_, ?_, ?_, ?_, ?_⟩
                  · intro f w1 hG hd
                    have hg4 := gbT (gbD (gbR wr none)) hG
                    simp [deps, tAt, isV] at hd
                    first | simp [puts, dsts, Act.put, hd] | simp [puts, dsts, Act.put]
                    clear hd
                    go_wp2_with fail
                    exact ⟨_, rfl, by with_reducible exact gbR _ _, by simp [tAt, isV]⟩
                  · intro f w1 hG hd
                    have hg4 := gbT (gbD (gbR wr none)) hG
                    simp [deps, tAt, isV] at hd
                    first | simp [puts, dsts, Act.put, hd] | simp [puts, dsts, Act.put]
                    clear hd
                    go_wp2_with fail
                    exact ⟨_, rfl, by with_reducible exact gbR _ _, by simp [tAt, isV]⟩
                  · intro f w1 hG hd
                    have hg4 := gbT (gbD (gbR wr none)) hG
                    simp [deps, tAt, isV] at hd
                    first | simp [puts, dsts, Act.put, hd] | simp [puts, dsts, Act.put]
                    clear hd
                    go_wp2_with fail
                    exact ⟨_, rfl, by with_reducible exact gbR _ _, by simp [tAt, isV]⟩
                  · intro f w1 hG hd
                    have hg4 := gbT (gbD (gbR wr none)) hG
                    have k0 := gbk hg4 (KT.out)
                    simp [deps, tAt, isV] at hd
                    first | simp [puts, dsts, Act.put, hd] | simp [puts, dsts, Act.put]
                    clear hd
                    go_wp2_with fail
                    exact ⟨_, rfl, by with_reducible exact gbR _ _, by simp [tAt, isV]⟩
                  · intro f w1 hG hd
                    have hg4 := gbT (gbD (gbR wr none)) hG
                    simp [deps, tAt, isV] at hd
                    first | simp [puts, dsts, Act.put, hd] | simp [puts, dsts, Act.put]
                    clear hd
                    go_wp2_with fail
                    exact ⟨_, rfl, by with_reducible exact gbR _ _, by simp [tAt, isV]⟩
                  · intro f w1 hG hd
                    have hg4 := gbT (gbD (gbR wr none)) hG
                    simp [deps, tAt, isV] at hd
                    first | simp [puts, dsts, Act.put, hd] | simp [puts, dsts, Act.put]
                    clear hd
                    go_wp2_with fail
                    exact ⟨_, rfl, by with_reducible exact gbR _ _, by simp [tAt, isV]⟩
                  · intro f w1 hG hd
                    have hg4 := gbT (gbD (gbR wr none)) hG
                    simp [deps, tAt, isV] at hd
                    first | simp [puts, dsts, Act.put, hd] | simp [puts, dsts, Act.put]
                    clear hd
                    go_wp2_with fail
                    exact ⟨_, rfl, by with_reducible exact gbR _ _, by simp [tAt, isV]⟩
                  · intro f w1 hG hd
                    have hg4 := gbT (gbD (gbR wr none)) hG
                    simp [deps, tAt, isV] at hd
                    first | simp [puts, dsts, Act.put, hd] | simp [puts, dsts, Act.put]
                    clear hd
                    go_wp2_with fail
                    exact ⟨_, rfl, by with_reducible exact gbR _ _, by simp [tAt, isV]⟩
                  · intro f w1 hG hd
                    have hg4 := gbT (gbD (gbR wr none)) hG
                    have k1 := gbk hg4 (Q0.out)
                    have k2 := gbk hg4 (Q1.out)
                    have k3 := gbk hg4 (Q2.out)
                    simp [deps, tAt, isV] at hd
                    first | simp [puts, dsts, Act.put, hd] | simp [puts, dsts, Act.put]
                    clear hd
                    go_wp2_with fail
                    exact ⟨_, rfl, by with_reducible exact gbR _ _, by simp [tAt, isV]⟩
                  · intro f w1 hG hd
                    have hg4 := gbT (gbD (gbR wr none)) hG
                    have k4 := gbk hg4 (C0.out)
                    have k5 := gbk hg4 (C1.out)
                    simp [deps, tAt, isV] at hd
                    first | simp [puts, dsts, Act.put, hd] | simp [puts, dsts, Act.put]
                    clear hd
                    go_wp2_with fail
                    exact ⟨_, rfl, by with_reducible exact gbR _ _, by simp [tAt, isV]⟩
                  · intro f w1 hG hd
                    have hg4 := gbT (gbD (gbR wr none)) hG
                    simp [deps, tAt, isV] at hd
                    first | simp [puts, dsts, Act.put, hd] | simp [puts, dsts, Act.put]
                    clear hd
                    go_wp2_with fail
                    exact ⟨_, rfl, by with_reducible exact gbR _ _, by simp [tAt, isV]⟩
                  · intro f w1 hG hd
                    have hg4 := gbT (gbD (gbR wr none)) hG
                    simp [deps, tAt, isV] at hd
                    first | simp [puts, dsts, Act.put, hd] | simp [puts, dsts, Act.put]
                    clear hd
                    go_wp2_with fail
                    exact ⟨_, rfl, by with_reducible exact gbR _ _, by simp [tAt, isV]⟩
                  · intro f w1 hG hd
                    have hg4 := gbT (gbD (gbR wr none)) hG
                    simp [deps, tAt, isV] at hd
                    first | simp [puts, dsts, Act.put, hd] | simp [puts, dsts, Act.put]
                    clear hd
                    go_wp2_with fail
                    exact ⟨_, rfl, by with_reducible exact gbR _ _, by simp [tAt, isV]⟩
                  · intro f w1 hG hd
                    have hg4 := gbT (gbD (gbR wr none)) hG
                    have k6 := gbk hg4 (KB.out)
                    simp [deps, tAt, isV] at hd
                    first | simp [puts, dsts, Act.put, hd] | simp [puts, dsts, Act.put]
                    clear hd
                    go_wp2_with fail
                    exact ⟨_, rfl, by with_reducible exact gbR _ _, by simp [tAt, isV]⟩
                  · intro f w1 hG hd
                    have hg4 := gbT (gbD (gbR wr none)) hG
                    simp [deps, tAt, isV] at hd
                    first | simp [puts, dsts, Act.put, hd] | simp [puts, dsts, Act.put]
                    clear hd
                    go_wp2_with fail
                    refine (specl32One_c m s _ w1 (HV.out.grow (gbT G2.out (gbT GR.out hg4))) ASK.out.1 HQL.out HS6.out).mono ?_
                    rintro e' w6 ⟨v6, rfl, o6, g6⟩
                    have O6 := Lib.hid (aggF.lo o6 (Nat.zero_le _))
                    have G6' := Lib.hid g6
                    clear o6 g6
                    go_wp2_with fail
                    exact ⟨_, rfl, G6'.out, O6.out⟩
                  · intro f w1 hG hd
                    have hg4 := gbT (gbD (gbR wr none)) hG
                    simp [deps, tAt, isV] at hd
                    have e42 := hd.1
                    have h48 : aggF 0 (cpb (pubN m s)) (f 48) w1 := by first | exact hd.2 | exact hd.2.1
                    have e38 : f 38 = .bool true := by first | exact hd.2.2 | exact hd.2.2.2 | exact hd.2.2.2.2
                    clear hd
                    have H48 := Lib.hid (aggF.rd h48)
                    clear h48
                    simp [puts, dsts, Act.put, e42, e38]
                    clear e42 e38
                    go_wp2_with fail
                    refine (l29SameP_c px (pubN m s) _ _ w1 SX.out SY.out (QR.out.grow hg4) H48.out).mono ?_
                    rintro e' w6 ⟨rfl, hw⟩
                    rw [HS.out]
                    go_wp2_with fail
                    exact ⟨_, rfl, hw, rfl⟩
                  · intro f w1 hG hd
                    have hg4 := gbT (gbD (gbR wr none)) hG
                    simp [deps, tAt, isV] at hd
                    first | simp [puts, dsts, Act.put, hd] | simp [puts, dsts, Act.put]
                    clear hd
                    go_wp2_with fail
                    exact ⟨_, rfl, by with_reducible exact gbR _ _, by simp [tAt, isV]⟩
                  · intro f w1 hG hd
                    have hg4 := gbT (gbD (gbR wr none)) hG
                    simp [deps, tAt, isV] at hd
                    first | simp [puts, dsts, Act.put, hd] | simp [puts, dsts, Act.put]
                    clear hd
                    go_wp2_with fail
                    exact ⟨_, rfl, by with_reducible exact gbR _ _, by simp [tAt, isV]⟩
                intro f w5 hG hd
                simp [knows, tAt, isV] at hd
                obtain ⟨h0_, h1_, h2_, h3_, h4_, h5_, h6_, h7_, h8_, h9_, h10_, h11_, h12_, h13_, h14_, h15_, h16_, h17_⟩ := hd
                simp only [puts, dsts, Act.put, h0_, h1_, h2_, h3_, h4_, h5_, h6_, h7_, h8_, h9_, h10_, h11_, h12_, h13_, h14_, h15_, h16_, h17_, List.filterMap_cons, List.filterMap_nil, List.setIfInBounds_toArray, List.set_cons_zero, List.set_cons_succ]
                clear h0_ h1_ h2_ h3_ h4_ h5_ h6_ h7_ h8_ h9_ h10_ h11_ h12_ h13_ h14_ h15_ h16_ h17_
                have g5 := gbT (gbD (gbR wr none)) hG
                clear hG
                have G5 := Lib.hid (gbT GR.out g5)
                clear g5
                go_wp2_with fail
                go_roundw
                case rel => exact ⟨k + 1, by omega, by go_num, Lib.hid (fun j hj => by
                  by_cases e : j = k
                  · subst e; exact HBA.out
                  · exact hall.out j (by omega)), G5⟩
                case measure => simp [intOf]; omega
          · have hkp : k = p := by omega
            subst hkp
            go_wp2_with fail
            go_ret
            exact ⟨by rw [HR'.out, firstB_none hall.out]; rfl, gbT G2.out GR.out⟩
      · have HASK := Lib.hid (askQ_no ask)
        have NASK := Lib.hid ask
        clear ask sq
        go_wp2_with (go_at_call 72; refine (specl32Ask_c m ss _ _ w1 (HV.out.grow G1.out) ((cints ss).grow HU.out G1.out)).mono ?_; rintro e w2 ⟨rfl, g2⟩; rw [HASK.out])
        go_ret
        exact ⟨by rw [chkR_bad NASK.out]; rfl, gbT G1.out g2⟩
    · have n1 : ((p : Int) != (r : Int)) = false := by simp [e1]
      have n2 : ((t : Int) != (r : Int)) = true := by simp; omega
      have E2 := Lib.hid e2
      clear e1 e2 sq
      go_wp2_with fail
      go_ret
      exact ⟨by rw [chkR_no fun h => E2.out (by rw [← HP.out, ← HT.out]; exact h.2.1)]; rfl, G1.out⟩
  · have n1 : ((p : Int) != (r : Int)) = true := by simp; omega
    have E1 := Lib.hid e1
    clear e1 sq
    go_wp2_with fail
    go_ret
    exact ⟨by rw [chkR_no fun h => E1.out (by rw [← HP.out, ← HR.out]; exact h.1)]; rfl, G1.out⟩
end Go.Proofs.Ythdfkiaoahpjpaa
