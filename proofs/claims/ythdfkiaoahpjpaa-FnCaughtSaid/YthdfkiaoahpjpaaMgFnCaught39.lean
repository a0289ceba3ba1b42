/-
  CheckCopies of the program: the answer for all arguments.
-/
import Derived.Test.YthdfkiaoahpjpaaMgFnCaught38
namespace Go.Proofs.Ythdfkiaoahpjpaa
open Go.RowKit
set_option linter.unusedVariables false
set_option linter.unusedSimpArgs false
theorem cbools_rd {w : World} {xs : List Bool} {v : Value} (h : (cbools xs).rd w v) : ∃ A c, v = .slice A xs.length c ∧ xs.length ≤ c ∧ c ≤ maxLen ∧ Bools w A xs.length xs := by
  obtain ⟨A, c, h1, h2, h3, h4⟩ := plst_rd (s := 1) (fun _ => rfl) (by omega) h
  exact ⟨A, c, h1, h2, h3, by have := h4.rd; rw [show xs.flatMap fbC = xs.map Value.bool from flat_one _ xs] at this; exact this⟩
theorem cbools_mk {w : World} {A : Option Addr} {n c : Nat} {xs : List Bool} (h : Bools w A n xs) (hc : n ≤ c) (hm : c ≤ maxLen) : (cbools xs).rd w (.slice A n c) :=
  plst_mk (s := 1) (fun _ => rfl) (by intro x u hu; simp [fbC] at hu; subst hu; rfl) ⟨h.len, by rw [show xs.flatMap fbC = xs.map Value.bool from flat_one _ xs]; exact h⟩ hc hm
def firstB (p : Nat → Bool) (n : Nat) : Int := match (List.range n).find? p with | some i => (i : Int) | none => -1
theorem firstB_some {p : Nat → Bool} {n k : Nat} (h : ∀ j, j < k → p j = false) (hk : p k = true) (hn : k < n) : firstB p n = (k : Int) := by
  have h1 : (List.range n).find? p = some k := by
    rw [List.find?_range_eq_some]
    exact ⟨hk, by simpa using hn, fun j hj => by simpa using h j hj⟩
  rw [firstB, h1]
theorem firstB_none {p : Nat → Bool} {n : Nat} (h : ∀ j, j < n → p j = false) : firstB p n = -1 := by
  have h1 : (List.range n).find? p = none := by
    rw [List.find?_eq_none]
    intro j hj
    rw [h j (List.mem_range.1 hj)]
    simp
  rw [firstB, h1]
def badAt (cs hs : List PbM) (ch : List Bool) (i : Nat) : Bool := ch.getD i false && !sameP (pbAt cs i) (pbAt hs i)
noncomputable def chkR (m : CM) (cs : List PbM) (ss : List Int) (ch : List Bool) : Int :=
  if cs.length = ss.length ∧ cs.length = ch.length ∧ (cpsR m ss).length = cs.length then firstB (badAt cs (cpsR m ss) ch) ch.length else -1
theorem chkR_yes {m : CM} {cs : List PbM} {ss : List Int} {ch : List Bool} (h : cs.length = ss.length ∧ cs.length = ch.length ∧ (cpsR m ss).length = cs.length) : chkR m cs ss ch = firstB (badAt cs (cpsR m ss) ch) ch.length := by rw [chkR, if_pos h]
theorem chkR_no {m : CM} {cs : List PbM} {ss : List Int} {ch : List Bool} (h : ¬ (cs.length = ss.length ∧ cs.length = ch.length ∧ (cpsR m ss).length = cs.length)) : chkR m cs ss ch = -1 := by rw [chkR, if_neg h]
theorem pbAt_all {Q : PbM → Prop} {xs : List PbM} (h : ∀ x ∈ xs, Q x) {k : Nat} (hk : k < xs.length) : Q (pbAt xs k) := h _ (List.mem_of_getElem? (pbAt_at hk))
theorem pubN_small (m : CM) (s : Nat) (hg : m.gt.length ≤ 6000) (hq : m.outs.length ≤ 1048576) : pbS (pubN m s) := by
  refine ⟨?_, ?_, ?_⟩
  · show (garT s m.gt m.gt.length).length ≤ _
    have := garT_len s m.gt m.gt.length (Nat.le_refl _)
    have := gts_le m.gt 4 m.gt.length
    omega
  · show (conTo s m.gt (garZ s m.gt m.gt.length) m.gt.length).length ≤ _
    have := conTo_le s m.gt (garZ s m.gt m.gt.length) m.gt.length
    omega
  · show (decTo m (garZ s m.gt m.gt.length) m.outs.length).length ≤ _
    rw [decTo_len m _ _ (Nat.le_refl _)]
    omega
theorem cpsR_small (m : CM) (ss : List Int) (hq : m.outs.length ≤ 1048576) : ∀ x ∈ cpsR m ss, pbS x := by
  intro x hx
  by_cases ask : askB m ss
  · rw [cpsR_yes ask] at hx
    obtain ⟨s, _, rfl⟩ := List.mem_map.1 hx
    exact pubN_small m _ ask.1.few hq
  · rw [cpsR_no ask] at hx
    cases hx
set_option maxHeartbeats 1600000 in
set_option maxRecDepth 100000 in
theorem implCheckCopies_c (m : CM) (cs : List PbM) (ss : List Int) (ch : List Bool) (v vc u vb : Value) (w0 : World) (h : AggR w0 (ccircuit m) v) (hcc : (cpubs cs).rd w0 vc) (hu : (cints ss).rd w0 u) (hb : (cbools ch).rd w0 vb) (hql : m.outs.length ≤ 1048576) (hsm : ∀ x ∈ cs, pbS x) :
    Calls Try.prog 42 #[v, vc, u, vb] w0 fun e w' => e = .returned (.int .i64 (chkR m cs ss ch)) ∧ w0.grownBy w' none := by
  have HQL := Lib.hid hql
  have HU0 := Lib.hid hu
  have HC0 := Lib.hid hcc
  have HSM := Lib.hid hsm
  obtain ⟨C, cC, rfl, hcC, hmC⟩ := cps_rd hcc
  obtain ⟨T, cT, rfl, hcT, hmT, hT⟩ := cbools_rd hb
  unfold maxLen at hmC hmT
  obtain ⟨p, hp⟩ : ∃ p, cs.length = p := ⟨_, rfl⟩
  obtain ⟨t, ht⟩ : ∃ t, ch.length = t := ⟨_, rfl⟩
  rw [hp] at HC0 hcC ⊢
  rw [ht] at hT hcT ⊢
  have HP := Lib.hid hp
  have HT := Lib.hid ht
  have IT := Lib.hid hT
  clear hcc hb hT hp ht hsm
  obtain ⟨u0, u1, rfl, h1, h2⟩ := ccircuit_open h
  obtain ⟨A, cA, rfl, hc, hm, hF⟩ := plst_rd (s := 3) (fun _ => rfl) (by omega) h1
  obtain ⟨B, cB, rfl, _, _, hB⟩ := cints_rd h2
  obtain ⟨S, cS, rfl, hcS, hmS, hS⟩ := cints_rd hu
  unfold maxLen at hmS
  obtain ⟨q, hq⟩ : ∃ q, m.outs.length = q := ⟨_, rfl⟩
  obtain ⟨n, hn⟩ : ∃ n, m.gt.length = n := ⟨_, rfl⟩
  obtain ⟨r, hr⟩ : ∃ r, ss.length = r := ⟨_, rfl⟩
  have HV := Lib.hid (show AggR w0 (ccircuit m) (.agg #[.slice A n cA, .slice B q cB]) by rw [← hn, ← hq]; exact h)
  rw [hn, hq, hr]
  rw [hr] at hS hcS
  have HR := Lib.hid hr
  have IS := Lib.hid hS
  clear h h1 h2 hF hB hS hu hn hr hc hm
  obtain ⟨w1, hw1⟩ : ∃ x : World, w0.alloc (.cells #[.slice A n cA, .slice B q cB] 28) = x := ⟨_, rfl⟩
  have G1 : Hid (w0.grownBy w1 none) := by rw [← hw1]; exact Lib.hid (gbA (gbR _ _) _)
  have D1 : Hid (Blk w1 w0.heap.size 28 #[.slice A n cA, .slice B q cB]) := by rw [← hw1]; exact Lib.hid (Blk.new w0 _ _)
  have HU : Hid ((cints ss).rd w0 (.slice S r cS)) := by rw [← HR.out]; exact HU0
  clear hq hql HU0
  have c0 := D1.out.cell 0
  have c1 := D1.out.cell 1
  simp at c0 c1
  go_enter Try.func42, Try.ntmps42
  go_wp2_with fail
  clear c0 c1 hw1
  refine (implCopiesNew_c m ss _ _ w1 (HV.out.grow G1.out) ((cints ss).grow HU.out G1.out) HQL.out).mono ?_
  rintro e w2 ⟨V, rfl, o2, g2⟩
  obtain ⟨F2, o2, _⟩ := o2
  have HH0 := Lib.hid ((cpubs _).toRd o2)
  obtain ⟨D, cD, rfl, hcD, hmD⟩ := cps_rd HH0.out
  unfold maxLen at hmD
  have G2 := Lib.hid (gbT G1.out g2)
  have HSH := Lib.hid (cpsR_small m ss HQL.out)
  obtain ⟨hs, hhs⟩ : ∃ hs, cpsR m ss = hs := ⟨_, rfl⟩
  rw [hhs] at HH0 HSH hcD ⊢
  have HHS := Lib.hid hhs
  obtain ⟨l, hl⟩ : ∃ l, hs.length = l := ⟨_, rfl⟩
  rw [hl] at HH0 hcD ⊢
  have HL := Lib.hid hl
  clear o2 g2 hhs hl G1 D1
  by_cases e1 : p = r
  · by_cases e2 : p = t
    · by_cases e3 : l = p
      · subst e1
        subst e2
        have e3 := e3.symm
        subst e3
        have n1 : ((p : Int) != (p : Int)) = false := by simp
        have HR' : Hid (chkR m cs ss ch = firstB (badAt cs hs ch) p) := by rw [chkR_yes ⟨by rw [HP.out, HR.out], by rw [HP.out, HT.out], by rw [HHS.out, HL.out, HP.out]⟩, HHS.out, HT.out]; exact Lib.hid rfl
        go_wp2_with fail
        go_loopw [36] (fun i wr => ∃ k : Nat, k ≤ p ∧ i = .int .i64 k ∧ Hid (∀ j, j < k → badAt cs hs ch j = false) ∧ Hid (w2.grownBy wr none)) (fun i _ => p - (intOf i).toNat)
        case atStart => exact ⟨0, Nat.zero_le _, rfl, Lib.hid (fun j hj => by omega), gbR _ _⟩
        case round =>
          obtain ⟨k, hk, rfl, hall, GR⟩ := hrel
          by_cases hlt : k < p
          · have i1 : (k : Int) < (p : Int) := by omega
            obtain ⟨bt, ot, rfl, hbt, qt⟩ := IT.out.at_ (by omega)
            have kt := gbk (gbT G2.out GR.out) (qt k hlt)
            obtain ⟨b, hb⟩ : ∃ b, ch.getD k false = b := ⟨_, rfl⟩
            rw [hb] at kt
            have HB := Lib.hid hb
            clear hb qt
            go_wp2_with fail
            clear kt
            cases b with
            | false =>
              refine region_grow [isV (.bool false), isV (.bool false), isV (undef), isV (undef), isV (undef), isV (undef), isV (undef), isV (undef), isV (undef), isV (undef), isV (undef), isV (undef), isV (.bool false)] (by kernel_rfl) (by kernel_rfl) (by kernel_rfl) (by simp [stables, isV_st]) ?_ ?_
              · simp only [hops, and_true]
                refine ⟨?_, ?_, ?_, ?_, ?_, ?_, ?_, ?_, ?_, ?_, ?_, ?_, ?_⟩
                · intro f w1 hG hd
                  have hg4 := gbT (gbD (gbR wr none)) hG
                  simp [deps, tAt, isV] at hd
                  first | simp [puts, dsts, Act.put, hd] | simp [puts, dsts, Act.put]
                  clear hd
                  go_wp2_with fail
                  exact ⟨_, rfl, by with_reducible exact gbR _ _, by simp [tAt, isV]⟩
                · intro f w1 hG hd
                  have hg4 := gbT (gbD (gbR wr none)) hG
                  simp [deps, tAt, isV] at hd
                  first | simp [puts, dsts, Act.put, hd] | simp [puts, dsts, Act.put]
                  clear hd
                  go_wp2_with fail
                  exact ⟨_, rfl, by with_reducible exact gbR _ _, by simp [tAt, isV]⟩
                · intro f w1 hG hd
                  have hg4 := gbT (gbD (gbR wr none)) hG
                  simp [deps, tAt, isV] at hd
                  first | simp [puts, dsts, Act.put, hd] | simp [puts, dsts, Act.put]
                  clear hd
                  go_wp2_with fail
                  exact ⟨_, rfl, by with_reducible exact gbR _ _, by simp [tAt, isV]⟩
                · intro f w1 hG hd
                  have hg4 := gbT (gbD (gbR wr none)) hG
                  simp [deps, tAt, isV] at hd
                  first | simp [puts, dsts, Act.put, hd] | simp [puts, dsts, Act.put]
                  clear hd
                  go_wp2_with fail
                  exact ⟨_, rfl, by with_reducible exact gbR _ _, by simp [tAt, isV]⟩
                · intro f w1 hG hd
                  have hg4 := gbT (gbD (gbR wr none)) hG
                  simp [deps, tAt, isV] at hd
                  first | simp [puts, dsts, Act.put, hd] | simp [puts, dsts, Act.put]
                  clear hd
                  go_wp2_with fail
                  exact ⟨_, rfl, by with_reducible exact gbR _ _, by simp [tAt, isV]⟩
                · intro f w1 hG hd
                  have hg4 := gbT (gbD (gbR wr none)) hG
                  simp [deps, tAt, isV] at hd
                  first | simp [puts, dsts, Act.put, hd] | simp [puts, dsts, Act.put]
                  clear hd
                  go_wp2_with fail
                  exact ⟨_, rfl, by with_reducible exact gbR _ _, by simp [tAt, isV]⟩
                · intro f w1 hG hd
                  have hg4 := gbT (gbD (gbR wr none)) hG
                  simp [deps, tAt, isV] at hd
                  first | simp [puts, dsts, Act.put, hd] | simp [puts, dsts, Act.put]
                  clear hd
                  go_wp2_with fail
                  exact ⟨_, rfl, by with_reducible exact gbR _ _, by simp [tAt, isV]⟩
                · intro f w1 hG hd
                  have hg4 := gbT (gbD (gbR wr none)) hG
                  simp [deps, tAt, isV] at hd
                  first | simp [puts, dsts, Act.put, hd] | simp [puts, dsts, Act.put]
                  clear hd
                  go_wp2_with fail
                  exact ⟨_, rfl, by with_reducible exact gbR _ _, by simp [tAt, isV]⟩
                · intro f w1 hG hd
                  have hg4 := gbT (gbD (gbR wr none)) hG
                  simp [deps, tAt, isV] at hd
                  first | simp [puts, dsts, Act.put, hd] | simp [puts, dsts, Act.put]
                  clear hd
                  go_wp2_with fail
                  exact ⟨_, rfl, by with_reducible exact gbR _ _, by simp [tAt, isV]⟩
                · intro f w1 hG hd
                  have hg4 := gbT (gbD (gbR wr none)) hG
                  simp [deps, tAt, isV] at hd
                  first | simp [puts, dsts, Act.put, hd] | simp [puts, dsts, Act.put]
                  clear hd
                  go_wp2_with fail
                  exact ⟨_, rfl, by with_reducible exact gbR _ _, by simp [tAt, isV]⟩
                · intro f w1 hG hd
                  have hg4 := gbT (gbD (gbR wr none)) hG
                  simp [deps, tAt, isV] at hd
                  first | simp [puts, dsts, Act.put, hd] | simp [puts, dsts, Act.put]
                  clear hd
                  go_wp2_with fail
                  exact ⟨_, rfl, by with_reducible exact gbR _ _, by simp [tAt, isV]⟩
                · intro f w1 hG hd
                  have hg4 := gbT (gbD (gbR wr none)) hG
                  simp [deps, tAt, isV] at hd
                  first | simp [puts, dsts, Act.put, hd] | simp [puts, dsts, Act.put]
                  clear hd
                  go_wp2_with fail
                  exact ⟨_, rfl, by with_reducible exact gbR _ _, by simp [tAt, isV]⟩
                · intro f w1 hG hd
                  have hg4 := gbT (gbD (gbR wr none)) hG
                  simp [deps, tAt, isV] at hd
                  first | simp [puts, dsts, Act.put, hd] | simp [puts, dsts, Act.put]
                  clear hd
                  go_wp2_with fail
                  exact ⟨_, rfl, by with_reducible exact gbR _ _, by simp [tAt, isV]⟩
              intro f w5 hG hd
              simp [knows, tAt, isV] at hd
              obtain ⟨h0_, h1_, h2_, h3_, h4_, h5_, h6_, h7_, h8_, h9_, h10_, h11_, h12_⟩ := hd
              simp only [puts, dsts, Act.put, h0_, h1_, h2_, h3_, h4_, h5_, h6_, h7_, h8_, h9_, h10_, h11_, h12_, List.filterMap_cons, List.filterMap_nil, List.setIfInBounds_toArray, List.set_cons_zero, List.set_cons_succ]
              clear h0_ h1_ h2_ h3_ h4_ h5_ h6_ h7_ h8_ h9_ h10_ h11_ h12_
              have g5 := gbT (gbD (gbR wr none)) hG
              clear hG
              have G5 := Lib.hid (gbT GR.out g5)
              have HBA : Hid (badAt cs hs ch k = false) := by unfold badAt; rw [HB.out]; exact Lib.hid rfl
              clear g5
              go_wp2_with fail
              go_roundw
              case rel => exact ⟨k + 1, by omega, by go_num, Lib.hid (fun j hj => by
                by_cases e : j = k
                · subst e; exact HBA.out
                · exact hall.out j (by omega)), G5⟩
              case measure => simp [intOf]; omega
            | true =>
              obtain ⟨bc, oc, X0, X1, X2, x0, x1, x2, rfl, _, q0, q1, q2, qr⟩ := cpubs_at (CS.grow _ HC0.out (gbT G2.out GR.out)) hlt
              obtain ⟨bh, oh, Y0, Y1, Y2, y0, y1, y2, rfl, _, r0, r1, r2, rr⟩ := cpubs_at (CS.grow _ HH0.out GR.out) hlt
              have SX := Lib.hid (pbAt_all HSM.out (k := k) (by rw [HP.out]; exact hlt))
              have SY := Lib.hid (pbAt_all HSH.out (k := k) (by rw [HL.out]; exact hlt))
              obtain ⟨sm, hsm⟩ : ∃ b, sameP (pbAt cs k) (pbAt hs k) = b := ⟨_, rfl⟩
              have HBA : Hid (badAt cs hs ch k = !sm) := by unfold badAt; rw [HB.out, hsm]; exact Lib.hid rfl
              have HS := Lib.hid hsm
              generalize pbAt cs k = px at *
              generalize pbAt hs k = py at *
              generalize px.ts.length = a0 at *
              generalize px.cs.length = a1 at *
              generalize px.ds.length = a2 at *
              generalize py.ts.length = b0 at *
              generalize py.cs.length = b1 at *
              generalize py.ds.length = b2 at *
              have Q0 := Lib.hid q0
              have Q1 := Lib.hid q1
              have Q2 := Lib.hid q2
              have R0 := Lib.hid r0
              have R1 := Lib.hid r1
              have R2 := Lib.hid r2
              have QR := Lib.hid qr
              have RR := Lib.hid rr
              clear q0 q1 q2 r0 r1 r2 qr rr hsm
              cases sm with
              | false =>
                refine region_grow [isV (.bool true), isV (.bool true), isV (.slice (some ⟨bc, oc, none⟩) p cC), isV (.int .i64 k), isV (.pointer (some ⟨bc, oc + k * 3, none⟩)), isV (.agg #[.slice X0 a0 x0, .slice X1 a1 x1, .slice X2 a2 x2]), isV (.slice (some ⟨bh, oh, none⟩) p cD), isV (.int .i64 k), isV (.pointer (some ⟨bh, oh + k * 3, none⟩)), isV (.agg #[.slice Y0 b0 y0, .slice Y1 b1 y1, .slice Y2 b2 y2]), isV (.bool false), isV (.bool true), isV (.bool true)] (by kernel_rfl) (by kernel_rfl) (by kernel_rfl) (by simp [stables, isV_st]) ?_ ?_
                · simp only [hops, and_true]
                  refine ⟨?_, ?_, ?_, ?_, ?_, ?_, ?_, ?_, ?_, ?_, ?_, ?_, ?_⟩
                  · intro f w1 hG hd
                    have hg4 := gbT (gbD (gbR wr none)) hG
                    simp [deps, tAt, isV] at hd
                    first | simp [puts, dsts, Act.put, hd] | simp [puts, dsts, Act.put]
                    clear hd
                    go_wp2_with fail
                    exact ⟨_, rfl, by with_reducible exact gbR _ _, by simp [tAt, isV]⟩
                  · intro f w1 hG hd
                    have hg4 := gbT (gbD (gbR wr none)) hG
                    simp [deps, tAt, isV] at hd
                    first | simp [puts, dsts, Act.put, hd] | simp [puts, dsts, Act.put]
                    clear hd
                    go_wp2_with fail
                    exact ⟨_, rfl, by with_reducible exact gbR _ _, by simp [tAt, isV]⟩
                  · intro f w1 hG hd
                    have hg4 := gbT (gbD (gbR wr none)) hG
                    simp [deps, tAt, isV] at hd
                    first | simp [puts, dsts, Act.put, hd] | simp [puts, dsts, Act.put]
                    clear hd
                    go_wp2_with fail
                    exact ⟨_, rfl, by with_reducible exact gbR _ _, by simp [tAt, isV]⟩
                  · intro f w1 hG hd
                    have hg4 := gbT (gbD (gbR wr none)) hG
                    simp [deps, tAt, isV] at hd
                    first | simp [puts, dsts, Act.put, hd] | simp [puts, dsts, Act.put]
                    clear hd
                    go_wp2_with fail
                    exact ⟨_, rfl, by with_reducible exact gbR _ _, by simp [tAt, isV]⟩
                  · intro f w1 hG hd
                    have hg4 := gbT (gbD (gbR wr none)) hG
                    simp [deps, tAt, isV] at hd
                    first | simp [puts, dsts, Act.put, hd] | simp [puts, dsts, Act.put]
                    clear hd
                    go_wp2_with fail
                    exact ⟨_, rfl, by with_reducible exact gbR _ _, by simp [tAt, isV]⟩
                  · intro f w1 hG hd
                    have hg4 := gbT (gbD (gbR wr none)) hG
                    have k0 := gbk hg4 (Q0.out)
                    have k1 := gbk hg4 (Q1.out)
                    have k2 := gbk hg4 (Q2.out)
                    simp [deps, tAt, isV] at hd
                    first | simp [puts, dsts, Act.put, hd] | simp [puts, dsts, Act.put]
                    clear hd
                    go_wp2_with fail
                    exact ⟨_, rfl, by with_reducible exact gbR _ _, by simp [tAt, isV]⟩
                  · intro f w1 hG hd
                    have hg4 := gbT (gbD (gbR wr none)) hG
                    simp [deps, tAt, isV] at hd
                    first | simp [puts, dsts, Act.put, hd] | simp [puts, dsts, Act.put]
                    clear hd
                    go_wp2_with fail
                    exact ⟨_, rfl, by with_reducible exact gbR _ _, by simp [tAt, isV]⟩
                  · intro f w1 hG hd
                    have hg4 := gbT (gbD (gbR wr none)) hG
                    simp [deps, tAt, isV] at hd
                    first | simp [puts, dsts, Act.put, hd] | simp [puts, dsts, Act.put]
                    clear hd
                    go_wp2_with fail
                    exact ⟨_, rfl, by with_reducible exact gbR _ _, by simp [tAt, isV]⟩
                  · intro f w1 hG hd
                    have hg4 := gbT (gbD (gbR wr none)) hG
                    simp [deps, tAt, isV] at hd
                    first | simp [puts, dsts, Act.put, hd] | simp [puts, dsts, Act.put]
                    clear hd
                    go_wp2_with fail
                    exact ⟨_, rfl, by with_reducible exact gbR _ _, by simp [tAt, isV]⟩
                  · intro f w1 hG hd
                    have hg4 := gbT (gbD (gbR wr none)) hG
                    have k3 := gbk hg4 (R0.out)
                    have k4 := gbk hg4 (R1.out)
                    have k5 := gbk hg4 (R2.out)
                    simp [deps, tAt, isV] at hd
                    first | simp [puts, dsts, Act.put, hd] | simp [puts, dsts, Act.put]
                    clear hd
                    go_wp2_with fail
                    exact ⟨_, rfl, by with_reducible exact gbR _ _, by simp [tAt, isV]⟩
                  · intro f w1 hG hd
                    have hg4 := gbT (gbD (gbR wr none)) hG
                    simp [deps, tAt, isV] at hd
                    first | simp [puts, dsts, Act.put, hd] | simp [puts, dsts, Act.put]
                    clear hd
                    go_wp2_with fail
                    refine (sameP_c px py _ _ w1 SX.out SY.out (QR.out.grow hg4) (RR.out.grow hg4)).mono ?_; rintro e w6 ⟨rfl, hw⟩; rw [HS.out]
                    go_wp2_with fail
                    exact ⟨_, rfl, by first | with_reducible exact gbR _ _ | exact hw, by simp [tAt, isV]⟩
                  · intro f w1 hG hd
                    have hg4 := gbT (gbD (gbR wr none)) hG
                    simp [deps, tAt, isV] at hd
                    first | simp [puts, dsts, Act.put, hd] | simp [puts, dsts, Act.put]
                    clear hd
                    go_wp2_with fail
                    exact ⟨_, rfl, by with_reducible exact gbR _ _, by simp [tAt, isV]⟩
                  · intro f w1 hG hd
                    have hg4 := gbT (gbD (gbR wr none)) hG
                    simp [deps, tAt, isV] at hd
                    first | simp [puts, dsts, Act.put, hd] | simp [puts, dsts, Act.put]
                    clear hd
                    go_wp2_with fail
                    exact ⟨_, rfl, by with_reducible exact gbR _ _, by simp [tAt, isV]⟩
                intro f w5 hG hd
                simp [knows, tAt, isV] at hd
                obtain ⟨h0_, h1_, h2_, h3_, h4_, h5_, h6_, h7_, h8_, h9_, h10_, h11_, h12_⟩ := hd
                simp only [puts, dsts, Act.put, h0_, h1_, h2_, h3_, h4_, h5_, h6_, h7_, h8_, h9_, h10_, h11_, h12_, List.filterMap_cons, List.filterMap_nil, List.setIfInBounds_toArray, List.set_cons_zero, List.set_cons_succ]
                clear h0_ h1_ h2_ h3_ h4_ h5_ h6_ h7_ h8_ h9_ h10_ h11_ h12_
                have g5 := gbT (gbD (gbR wr none)) hG
                clear hG
                have G5 := Lib.hid (gbT GR.out g5)
                clear g5
                go_wp2_with fail
                go_ret
                exact ⟨by rw [HR'.out, firstB_some hall.out HBA.out hlt]; rfl, gbT G2.out G5.out⟩
              | true =>
                refine region_grow [isV (.bool true), isV (.bool true), isV (.slice (some ⟨bc, oc, none⟩) p cC), isV (.int .i64 k), isV (.pointer (some ⟨bc, oc + k * 3, none⟩)), isV (.agg #[.slice X0 a0 x0, .slice X1 a1 x1, .slice X2 a2 x2]), isV (.slice (some ⟨bh, oh, none⟩) p cD), isV (.int .i64 k), isV (.pointer (some ⟨bh, oh + k * 3, none⟩)), isV (.agg #[.slice Y0 b0 y0, .slice Y1 b1 y1, .slice Y2 b2 y2]), isV (.bool true), isV (.bool false), isV (.bool false)] (by kernel_rfl) (by kernel_rfl) (by kernel_rfl) (by simp [stables, isV_st]) ?_ ?_
                · simp only [hops, and_true]
                  refine ⟨?_, ?_, ?_, ?_, ?_, ?_, ?_, ?_, ?_, ?_, ?_, ?_, ?_⟩
                  · intro f w1 hG hd
                    have hg4 := gbT (gbD (gbR wr none)) hG
                    simp [deps, tAt, isV] at hd
                    first | simp [puts, dsts, Act.put, hd] | simp [puts, dsts, Act.put]
                    clear hd
                    go_wp2_with fail
                    exact ⟨_, rfl, by with_reducible exact gbR _ _, by simp [tAt, isV]⟩
                  · intro f w1 hG hd
                    have hg4 := gbT (gbD (gbR wr none)) hG
                    simp [deps, tAt, isV] at hd
                    first | simp [puts, dsts, Act.put, hd] | simp [puts, dsts, Act.put]
                    clear hd
                    go_wp2_with fail
                    exact ⟨_, rfl, by with_reducible exact gbR _ _, by simp [tAt, isV]⟩
                  · intro f w1 hG hd
                    have hg4 := gbT (gbD (gbR wr none)) hG
                    simp [deps, tAt, isV] at hd
                    first | simp [puts, dsts, Act.put, hd] | simp [puts, dsts, Act.put]
                    clear hd
                    go_wp2_with fail
                    exact ⟨_, rfl, by with_reducible exact gbR _ _, by simp [tAt, isV]⟩
                  · intro f w1 hG hd
                    have hg4 := gbT (gbD (gbR wr none)) hG
                    simp [deps, tAt, isV] at hd
                    first | simp [puts, dsts, Act.put, hd] | simp [puts, dsts, Act.put]
                    clear hd
                    go_wp2_with fail
                    exact ⟨_, rfl, by with_reducible exact gbR _ _, by simp [tAt, isV]⟩
                  · intro f w1 hG hd
                    have hg4 := gbT (gbD (gbR wr none)) hG
                    simp [deps, tAt, isV] at hd
                    first | simp [puts, dsts, Act.put, hd] | simp [puts, dsts, Act.put]
                    clear hd
                    go_wp2_with fail
                    exact ⟨_, rfl, by with_reducible exact gbR _ _, by simp [tAt, isV]⟩
                  · intro f w1 hG hd
                    have hg4 := gbT (gbD (gbR wr none)) hG
                    have k0 := gbk hg4 (Q0.out)
                    have k1 := gbk hg4 (Q1.out)
                    have k2 := gbk hg4 (Q2.out)
                    simp [deps, tAt, isV] at hd
                    first | simp [puts, dsts, Act.put, hd] | simp [puts, dsts, Act.put]
                    clear hd
                    go_wp2_with fail
                    exact ⟨_, rfl, by with_reducible exact gbR _ _, by simp [tAt, isV]⟩
                  · intro f w1 hG hd
                    have hg4 := gbT (gbD (gbR wr none)) hG
                    simp [deps, tAt, isV] at hd
                    first | simp [puts, dsts, Act.put, hd] | simp [puts, dsts, Act.put]
                    clear hd
                    go_wp2_with fail
                    exact ⟨_, rfl, by with_reducible exact gbR _ _, by simp [tAt, isV]⟩
                  · intro f w1 hG hd
                    have hg4 := gbT (gbD (gbR wr none)) hG
                    simp [deps, tAt, isV] at hd
                    first | simp [puts, dsts, Act.put, hd] | simp [puts, dsts, Act.put]
                    clear hd
                    go_wp2_with fail
                    exact ⟨_, rfl, by with_reducible exact gbR _ _, by simp [tAt, isV]⟩
                  · intro f w1 hG hd
                    have hg4 := gbT (gbD (gbR wr none)) hG
                    simp [deps, tAt, isV] at hd
                    first | simp [puts, dsts, Act.put, hd] | simp [puts, dsts, Act.put]
                    clear hd
                    go_wp2_with fail
                    exact ⟨_, rfl, by with_reducible exact gbR _ _, by simp [tAt, isV]⟩
                  · intro f w1 hG hd
                    have hg4 := gbT (gbD (gbR wr none)) hG
                    have k3 := gbk hg4 (R0.out)
                    have k4 := gbk hg4 (R1.out)
                    have k5 := gbk hg4 (R2.out)
                    simp [deps, tAt, isV] at hd
                    first | simp [puts, dsts, Act.put, hd] | simp [puts, dsts, Act.put]
                    clear hd
                    go_wp2_with fail
                    exact ⟨_, rfl, by with_reducible exact gbR _ _, by simp [tAt, isV]⟩
                  · intro f w1 hG hd
                    have hg4 := gbT (gbD (gbR wr none)) hG
                    simp [deps, tAt, isV] at hd
                    first | simp [puts, dsts, Act.put, hd] | simp [puts, dsts, Act.put]
                    clear hd
                    go_wp2_with fail
                    refine (sameP_c px py _ _ w1 SX.out SY.out (QR.out.grow hg4) (RR.out.grow hg4)).mono ?_; rintro e w6 ⟨rfl, hw⟩; rw [HS.out]
                    go_wp2_with fail
                    exact ⟨_, rfl, by first | with_reducible exact gbR _ _ | exact hw, by simp [tAt, isV]⟩
                  · intro f w1 hG hd
                    have hg4 := gbT (gbD (gbR wr none)) hG
                    simp [deps, tAt, isV] at hd
                    first | simp [puts, dsts, Act.put, hd] | simp [puts, dsts, Act.put]
                    clear hd
                    go_wp2_with fail
                    exact ⟨_, rfl, by with_reducible exact gbR _ _, by simp [tAt, isV]⟩
                  · intro f w1 hG hd
                    have hg4 := gbT (gbD (gbR wr none)) hG
                    simp [deps, tAt, isV] at hd
                    first | simp [puts, dsts, Act.put, hd] | simp [puts, dsts, Act.put]
                    clear hd
                    go_wp2_with fail
                    exact ⟨_, rfl, by with_reducible exact gbR _ _, by simp [tAt, isV]⟩
                intro f w5 hG hd
                simp [knows, tAt, isV] at hd
                obtain ⟨h0_, h1_, h2_, h3_, h4_, h5_, h6_, h7_, h8_, h9_, h10_, h11_, h12_⟩ := hd
                simp only [puts, dsts, Act.put, h0_, h1_, h2_, h3_, h4_, h5_, h6_, h7_, h8_, h9_, h10_, h11_, h12_, List.filterMap_cons, List.filterMap_nil, List.setIfInBounds_toArray, List.set_cons_zero, List.set_cons_succ]
                clear h0_ h1_ h2_ h3_ h4_ h5_ h6_ h7_ h8_ h9_ h10_ h11_ h12_
                have g5 := gbT (gbD (gbR wr none)) hG
                clear hG
                have G5 := Lib.hid (gbT GR.out g5)
                clear g5
                go_wp2_with fail
                go_roundw
                case rel => exact ⟨k + 1, by omega, by go_num, Lib.hid (fun j hj => by
                  by_cases e : j = k
                  · subst e; exact HBA.out
                  · exact hall.out j (by omega)), G5⟩
                case measure => simp [intOf]; omega
          · have hkp : k = p := by omega
            subst hkp
            go_wp2_with fail
            go_ret
            exact ⟨by rw [HR'.out, firstB_none hall.out]; rfl, gbT G2.out GR.out⟩
      · have n1 : ((p : Int) != (r : Int)) = false := by simp [e1]
        have n2 : ((p : Int) != (t : Int)) = false := by simp [e2]
        have n3 : ((l : Int) != (p : Int)) = true := by simp; omega
        have E3 := Lib.hid e3
        clear e1 e2 e3
        go_wp2_with fail
        go_ret
        exact ⟨by rw [chkR_no fun h => E3.out (by rw [← HL.out, ← HP.out, ← HHS.out]; exact h.2.2)]; rfl, G2.out⟩
    · have n1 : ((p : Int) != (r : Int)) = false := by simp [e1]
      have n2 : ((p : Int) != (t : Int)) = true := by simp; omega
      have E2 := Lib.hid e2
      clear e1 e2
      go_wp2_with fail
      go_ret
      exact ⟨by rw [chkR_no fun h => E2.out (by rw [← HP.out, ← HT.out]; exact h.2.1)]; rfl, G2.out⟩
  · have n1 : ((p : Int) != (r : Int)) = true := by simp; omega
    have E1 := Lib.hid e1
    clear e1
    go_wp2_with fail
    go_ret
    exact ⟨by rw [chkR_no fun h => E1.out (by rw [← HP.out, ← HR.out]; exact h.1)]; rfl, G2.out⟩
end Go.Proofs.Ythdfkiaoahpjpaa
