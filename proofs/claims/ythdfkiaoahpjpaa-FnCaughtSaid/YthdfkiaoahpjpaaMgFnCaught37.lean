/-
  Garble of the reference.
-/
import Derived.Test.YthdfkiaoahpjpaaMgFnCaught35
import Derived.Test.YthdfkiaoahpjpaaMgFnCaught36
namespace Go.Proofs.Ythdfkiaoahpjpaa
open Go.RowKit
set_option linter.unusedVariables false
set_option linter.unusedSimpArgs false
end Go.Proofs.Ythdfkiaoahpjpaa
/-
  CopiesNew of the program: the answer for all arguments.
-/
namespace Go.Proofs.Ythdfkiaoahpjpaa
open Go.RowKit
set_option linter.unusedVariables false
set_option linter.unusedSimpArgs false
theorem wordQ_is {s : Int} {b : Bool} (h : wordQ s = b) : inQ s 0 4294967295 = b := h
set_option maxHeartbeats 1600000 in
set_option maxRecDepth 100000 in
theorem implCopiesNew_c (m : CM) (ss : List Int) (v u : Value) (w0 : World) (h : AggR w0 (ccircuit m) v) (hu : (cints ss).rd w0 u) (hql : m.outs.length ≤ 1048576) :
    Calls Try.prog 30 #[v, u] w0 fun e w' => ∃ V, e = .returned V ∧ ownF w0.heap.size (cpubs (cpsR m ss)) V w' ∧ w0.grownBy w' none := by
  have HV := Lib.hid h
  obtain ⟨u0, u1, rfl, h1, h2⟩ := ccircuit_open h
  obtain ⟨A, cA, rfl, hc, hm, hF⟩ := plst_rd (s := 3) (fun _ => rfl) (by omega) h1
  obtain ⟨B, cB, rfl, _, _, hB⟩ := cints_rd h2
  obtain ⟨S, cS, rfl, hcS, hmS, hS⟩ := cints_rd hu
  unfold maxLen at hmS
  obtain ⟨q, hq⟩ : ∃ q, m.outs.length = q := ⟨_, rfl⟩
  obtain ⟨n, hn⟩ : ∃ n, m.gt.length = n := ⟨_, rfl⟩
  obtain ⟨r, hr⟩ : ∃ r, ss.length = r := ⟨_, rfl⟩
  have HQL := Lib.hid hql
  have HB := Lib.hid (show AggR w0 (ccircuit m) (.agg #[.slice A n cA, .slice B q cB]) by rw [← hn, ← hq]; exact h)
  rw [hn, hq, hr]
  rw [hr] at hS hcS
  have HR := Lib.hid hr
  have IS := Lib.hid hS
  clear HV h h1 h2 hF hB hS hu hn hq hql hr hc hm
  have HV := HB
  clear HB
  obtain ⟨w1, hw1⟩ : ∃ x : World, w0.alloc (.cells #[.slice A n cA, .slice B q cB] 28) = x := ⟨_, rfl⟩
  have G1 : Hid (w0.grownBy w1 none) := by rw [← hw1]; exact Lib.hid (gbA (gbR _ _) _)
  have D1 : Hid (Blk w1 w0.heap.size 28 #[.slice A n cA, .slice B q cB]) := by rw [← hw1]; exact Lib.hid (Blk.new w0 _ _)
  have c0 := D1.out.cell 0
  have c1 := D1.out.cell 1
  simp at c0 c1
  by_cases h8 : r ≤ 8
  · have i8 : ¬ (8 : Int) < (r : Int) := by omega
    by_cases hok : COk m
    · have HCB := Lib.hid (circB_yes hok)
      have OK := Lib.hid hok
      clear hok
      go_enter Try.func30, Try.ntmps30
      go_wp2_with (go_at_call 55; refine (implCircuitOk_c m _ w1 (HV.out.grow G1.out)).mono ?_; rintro e w2 ⟨rfl, g2⟩; rw [HCB.out])
      have G2 := Lib.hid (gbT G1.out g2)
      have D2 := Lib.hid (D1.out.grow g2)
      clear c0 c1 hw1 G1 D1 g2
      go_loopw [24] (fun i wr => ∃ k : Nat, k ≤ r ∧ i = .int .i64 k ∧ Hid (∀ j, j < k → wordQ (ss.getD j 0) = true) ∧ wr = w2) (fun i _ => r - (intOf i).toNat)
      case atStart => exact ⟨0, Nat.zero_le _, rfl, Lib.hid (fun j hj => by omega), rfl⟩
      case round =>
        obtain ⟨k, hk, rfl, hall, rfl⟩ := hrel
        by_cases hlt : k < r
        · have i1 : (k : Int) < (r : Int) := by omega
          obtain ⟨bb, ob, rfl, hbb, qb⟩ := IS.out.cell hlt
          have kb := gbk G2.out qb
          obtain ⟨z, hz⟩ : ∃ z, ss.getD k 0 = z := ⟨_, rfl⟩
          rw [hz] at kb
          have HZ := Lib.hid hz
          obtain ⟨b, hb⟩ : ∃ b, wordQ z = b := ⟨_, rfl⟩
          have HBQ := Lib.hid hb
          clear hz hb qb
          go_wp2_with fail
          refine (implWordq_c z _).mono ?_
          rintro e w3 ⟨rfl, rfl⟩
          rw [wordQ_is HBQ.out]
          cases b with
          | false =>
            go_wp2_with fail
            go_ret
            refine ⟨_, rfl, ?_, G2.out⟩
            rw [cpsR_no fun h => by have := h.2.2 z (by rw [← HZ.out, getI _ _ (by rw [HR.out]; exact hlt)]; exact List.getElem_mem _); rw [HBQ.out] at this; cases this]
            exact ⟨[], cpubs_nil _, by simp⟩
          | true =>
            go_wp2_with fail
            go_roundw
            case rel => exact ⟨k + 1, by omega, by go_num, Lib.hid (fun j hj => by
              by_cases e : j = k
              · subst e; rw [HZ.out]; exact HBQ.out
              · exact hall.out j (by omega)), trivial⟩
            case measure => simp [intOf]; omega
        · have hkr : r = k := by omega
          subst hkr
          have ASK := Lib.hid (show askB m ss from ⟨OK.out, by rw [HR.out]; exact h8, fun s hs => by
            obtain ⟨j, hj, rfl⟩ := List.getElem_of_mem hs
            have := hall.out j (by rw [← HR.out]; exact hj)
            rwa [getI _ _ hj] at this⟩)
          clear hall
          obtain ⟨wl, hwl⟩ : ∃ x : World, wr.alloc (.cells #[] 70) = x := ⟨_, rfl⟩
          have GL : Hid (w0.grownBy wl none) := by rw [← hwl]; exact Lib.hid (gbA G2.out _)
          have DL : Hid (Blk wl w0.heap.size 28 #[.slice A n cA, .slice B q cB]) := by rw [← hwl]; exact Lib.hid (D2.out.grow (gbA (gbR _ _) _))
          have OL : Hid (ownF (w0.heap.size + 1) (cpubs (copN m (ss.take 0))) (.slice (some ⟨wr.heap.size, 0, none⟩) 0 0) wl) := by
            rw [← hwl]
            exact Lib.hid ⟨_, cpubs_new (World.ownsRow_made wr #[] 0 (Nat.zero_le _) (by simp) rfl), fun y hy => by have := D2.out.lt; simp at hy; omega⟩
          go_wp2_with fail
          try rw [hwl]
          clear hwl D2 G2
          go_loopw [7, 35] (fun t i wr => ∃ k c1 : Nat, ∃ A1 : Option Addr, k ≤ r ∧ i = .int .i64 k ∧ t = .slice A1 k c1 ∧ Hid (ownF (w0.heap.size + 1) (cpubs (copN m (ss.take k))) (.slice A1 k c1) wr) ∧ Hid (Blk wr w0.heap.size 28 #[.slice A n cA, .slice B q cB]) ∧ Hid (w0.grownBy wr none)) (fun _ i _ => r - (intOf i).toNat)
          case atStart => exact ⟨0, 0, _, Nat.zero_le _, rfl, rfl, OL, DL, GL⟩
          case round =>
            clear OL DL GL
            obtain ⟨k, c1, A1, hk, rfl, rfl, RO, DR, GR⟩ := hrel
            by_cases hlt : k < r
            · have i1 : (k : Int) < (r : Int) := by omega
              obtain ⟨bb, ob, rfl, hbb, qb⟩ := IS.out.cell hlt
              have kb := gbk GR.out qb
              have hw := ASK.out.2.2 (ss.getD k 0) (by rw [getI _ _ (by rw [HR.out]; exact hlt)]; exact List.getElem_mem _)
              obtain ⟨s, hs, hs6⟩ := word_nat hw
              have hsk : ss[k]? = some (s : Int) := by rw [← hs, getI _ _ (by rw [HR.out]; exact hlt)]; exact List.getElem?_eq_getElem _
              have HST := Lib.hid (copN_step (m := m) hsk)
              rw [hs] at kb
              have c0 := DR.out.cell 0
              have c1' := DR.out.cell 1
              simp at c0 c1'
              clear hw hs hsk qb
              go_wp2_with fail
              clear c0 c1' kb
              refine (implGarble_yes m s _ wr (HV.out.grow GR.out) OK.out hs6).mono ?_
              rintro e w5 ⟨V5, rfl, o5, g5⟩
              obtain ⟨Zg, cz, Tg, ct, rfl, -, -⟩ := gar_open o5.rd
              have O5 := Lib.hid (o5.rd.grow (gbA (gbR w5 none) (.cells #[.int .i64 (dltN s), .slice Zg (garZ s m.gt m.gt.length).length cz, .slice Tg (garT s m.gt m.gt.length).length ct] 100)))
              have D5 := DR.out.grow (gbT g5 (gbA (gbR w5 none) (.cells #[.int .i64 (dltN s), .slice Zg (garZ s m.gt m.gt.length).length cz, .slice Tg (garT s m.gt m.gt.length).length ct] 100)))
              have G5 := Lib.hid (gbT g5 (gbA (gbR w5 none) (.cells #[.int .i64 (dltN s), .slice Zg (garZ s m.gt m.gt.length).length cz, .slice Tg (garT s m.gt m.gt.length).length ct] 100)))
              clear o5 g5
              generalize (garZ s m.gt m.gt.length).length = zl at *
              generalize (garT s m.gt m.gt.length).length = tl at *
              obtain ⟨dd, hdd⟩ : ∃ d, dltN s = d := ⟨_, rfl⟩
              have OP := fun (v u : Value) (w : World) (h : AggR w (ccircuit m) v) (hg : AggR w (cgarb (dltN s) (garZ s m.gt m.gt.length) (garT s m.gt m.gt.length)) u) => implPublicOf_yes m s v u w h OK.out HQL.out hg
              rw [hdd] at O5 D5 G5 OP ⊢
              have HOP := Lib.hid OP
              clear OP
              clear hdd
              have c0 := D5.cell 0
              have c1' := D5.cell 1
              simp at c0 c1'
              clear D5
              go_wp2_with fail
              clear c0 c1'
              refine (HOP.out _ _ _ (HV.out.grow (gbT GR.out G5.out)) O5.out).mono ?_
              rintro e w7 ⟨V7, rfl, o7, g7⟩
              have o7 : aggF (wr.heap.size) (cpb (pubN m s)) V7 w7 := o7.lo G5.out.size
              obtain ⟨X0, x0, X1, x1, X2, x2, rfl, -, -, -⟩ := cpb_open o7.rd
              generalize (pubN m s).ts.length = l0 at *
              generalize (pubN m s).cs.length = l1 at *
              generalize (pubN m s).ds.length = l2 at *
              have gx := gbA (gbR w7 none) (.cells #[.slice X0 l0 x0, .slice X1 l1 x1, .slice X2 l2 x2] 70)
              have O7 := Lib.hid (o7.grow gx)
              have G7 := Lib.hid (gbT (gbT G5.out g7) gx)
              have hz7 := G7.out.size
              obtain ⟨F0, ho, hF0⟩ := RO.out
              have hlt0 := CS.lt _ ho
              have OW := Lib.hid (own_growK _ ho G7.out)
              have HF0 : Hid (∀ y ∈ F0, w0.heap.size + 1 ≤ y ∧ y < wr.heap.size) := Lib.hid (fun y hy => ⟨hF0 y hy, hlt0 y hy⟩)
              have HL : Hid ((copN m (ss.take k)).length = k) := Lib.hid (by rw [copN_len, List.length_take, HR.out]; omega)
              have hz0 := DR.out.lt
              clear o7 g7 gx ho hF0 hlt0 O5 HOP
              go_wp2_with (at_builtin; (refine wp_pushP _ (w7.heap.size + 1) (by simp) rfl (.tmp 52) (.tmp 54) rfl (pubN m s) _ _ _ (w0.heap.size + 1) wr.heap.size O7.out (by simp [Value.oneCell']) _ k _ F0 OW.out HF0.out hz0 hz7 HL.out rfl rfl (by omega) ?_); intro A9 c9 w9 O9 C9)
              rw [HST.out] at O9
              have CH9 : Chg (fun y => y ∈ F0) wr w9 := (Chg.of (gbT G7.out (gbA (gbR _ none) (.cells #[.slice X0 l0 x0, .slice X1 l1 x1, .slice X2 l2 x2] 70))) (by simp)).trans C9.out
              have D9 := Lib.hid (DR.out.chg CH9 (fun hy => by have := (HF0.out _ hy).1; omega))
              have G9 := Lib.hid (gbChg GR.out CH9 (fun y hy => by have := (HF0.out y hy).1; omega))
              clear CH9 C9
              go_roundw
              case rel => exact ⟨k + 1, c9, A9, by omega, by go_num, rfl, O9, D9, G9⟩
              case measure => simp [intOf]; omega
            · have hkr : k = r := by omega
              subst hkr
              go_wp2_with fail
              go_ret
              refine ⟨_, rfl, ?_, GR.out⟩
              have := RO.out
              rw [List.take_of_length_le (by rw [HR.out]; omega)] at this
              rw [cpsR_yes ASK.out]
              exact this.lo (Nat.le_succ _)
    · have HCB := Lib.hid (circB_no hok)
      have NOK := Lib.hid hok
      clear hok
      go_enter Try.func30, Try.ntmps30
      go_wp2_with (go_at_call 55; refine (implCircuitOk_c m _ w1 (HV.out.grow G1.out)).mono ?_; rintro e w2 ⟨rfl, g2⟩; rw [HCB.out])
      go_ret
      refine ⟨_, rfl, ?_, gbT G1.out g2⟩
      rw [cpsR_no fun h => NOK.out h.1]
      exact ⟨[], cpubs_nil _, by simp⟩
  · have i8 : (8 : Int) < (r : Int) := by omega
    have N8 := Lib.hid h8
    go_enter Try.func30, Try.ntmps30
    go_wp2_with fail
    go_ret
    refine ⟨_, rfl, ?_, G1.out⟩
    rw [cpsR_no fun h => N8.out (by rw [← HR.out]; exact h.2.1)]
    exact ⟨[], cpubs_nil _, by simp⟩
end Go.Proofs.Ythdfkiaoahpjpaa
