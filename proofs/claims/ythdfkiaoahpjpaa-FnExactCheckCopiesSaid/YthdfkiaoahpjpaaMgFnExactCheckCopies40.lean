/-
  l32One, l32Ask of the reference.
-/
import Derived.Test.YthdfkiaoahpjpaaMgFnExactCheckCopies34
import Derived.Test.YthdfkiaoahpjpaaMgFnExactCheckCopies38
namespace Go.Proofs.Ythdfkiaoahpjpaa
open Go.RowKit
set_option linter.unusedVariables false
set_option linter.unusedSimpArgs false
open Classical in
noncomputable def askQ (m : CM) (ss : List Int) : Bool := decide (askB m ss)
theorem askQ_yes {m : CM} {ss : List Int} (h : askB m ss) : askQ m ss = true := by simp [askQ, h]
theorem askQ_no {m : CM} {ss : List Int} (h : ¬ askB m ss) : askQ m ss = false := by simp [askQ, h]
theorem wordQ_is' {s : Int} {b : Bool} (h : wordQ s = b) : inQ s 0 4294967295 = b := h
set_option maxHeartbeats 1600000 in
set_option maxRecDepth 100000 in
theorem specl32Ask_c (m : CM) (ss : List Int) (v u : Value) (w0 : World) (h : AggR w0 (ccircuit m) v) (hu : (cints ss).rd w0 u) :
    Calls Try.prog 72 #[v, u] w0 fun e w' => e = .returned (.bool (askQ m ss)) ∧ w0.grownBy w' none := by
  obtain ⟨u0, u1, rfl, h1, h2⟩ := ccircuit_open h
  obtain ⟨A, cA, rfl, hc, hm, hF⟩ := plst_rd (s := 3) (fun _ => rfl) (by omega) h1
  obtain ⟨B, cB, rfl, _, _, hB⟩ := cints_rd h2
  obtain ⟨S, cS, rfl, hcS, hmS, hS⟩ := cints_rd hu
  unfold maxLen at hmS
  obtain ⟨q, hq⟩ : ∃ q, m.outs.length = q := ⟨_, rfl⟩
  obtain ⟨n, hn⟩ : ∃ n, m.gt.length = n := ⟨_, rfl⟩
  obtain ⟨r, hr⟩ : ∃ r, ss.length = r := ⟨_, rfl⟩
  have HV := Lib.hid (show AggR w0 (ccircuit m) (.agg #[.slice A n cA, .slice B q cB]) by rw [← hn, ← hq]; exact h)
  rw [hn, hq, hr]
  rw [hr] at hS hcS
  have HR := Lib.hid hr
  have IS := Lib.hid hS
  clear h h1 h2 hF hB hS hu hn hr hc hm
  obtain ⟨w1, hw1⟩ : ∃ x : World, w0.alloc (.cells #[.slice A n cA, .slice B q cB] 28) = x := ⟨_, rfl⟩
  have G1 : Hid (w0.grownBy w1 none) := by rw [← hw1]; exact Lib.hid (gbA (gbR _ _) _)
  have D1 : Hid (Blk w1 w0.heap.size 28 #[.slice A n cA, .slice B q cB]) := by rw [← hw1]; exact Lib.hid (Blk.new w0 _ _)
  clear hq
  go_enter Try.func72, Try.ntmps72
  go_wp2_with fail
  try rw [hw1]
  clear hw1
  go_loopw [5] (fun i wr => ∃ k : Nat, k ≤ r ∧ i = .int .i64 k ∧ Hid (∀ j, j < k → wordQ (ss.getD j 0) = true) ∧ wr = w1) (fun i _ => r - (intOf i).toNat)
  case atStart => exact ⟨0, Nat.zero_le _, rfl, Lib.hid (fun j hj => by omega), rfl⟩
  case round =>
    obtain ⟨k, hk, rfl, hall, rfl⟩ := hrel
    by_cases hlt : k < r
    · have i1 : (k : Int) < (r : Int) := by omega
      obtain ⟨bb, ob, rfl, hbb, qb⟩ := IS.out.cell hlt
      have kb := gbk G1.out qb
      obtain ⟨z, hz⟩ : ∃ z, ss.getD k 0 = z := ⟨_, rfl⟩
      rw [hz] at kb
      have HZ := Lib.hid hz
      obtain ⟨b, hb⟩ : ∃ b, wordQ z = b := ⟨_, rfl⟩
      have HBQ := Lib.hid hb
      clear hz hb qb
      go_wp2_with fail
      refine (specWordq_c z _).mono ?_
      rintro e w3 ⟨rfl, rfl⟩
      rw [wordQ_is' HBQ.out]
      cases b with
      | false =>
        go_wp2_with fail
        go_ret
        exact ⟨retB (askQ_no fun h => by have := h.2.2 z (by rw [← HZ.out, getI _ _ (by rw [HR.out]; exact hlt)]; exact List.getElem_mem _); rw [HBQ.out] at this; cases this).symm, G1.out⟩
      | true =>
        go_wp2_with fail
        go_roundw
        case rel => exact ⟨k + 1, by omega, by go_num, Lib.hid (fun j hj => by
          by_cases e : j = k
          · subst e; rw [HZ.out]; exact HBQ.out
          · exact hall.out j (by omega)), trivial⟩
        case measure => simp [intOf]; omega
    · have hkr : r = k := by omega
      subst hkr
      have c0 := D1.out.cell 0
      have c1 := D1.out.cell 1
      simp at c0 c1
      have HALL := Lib.hid (show ∀ s ∈ ss, wordQ s = true from fun s hs => by
        obtain ⟨j, hj, rfl⟩ := List.getElem_of_mem hs
        have := hall.out j (by rw [← HR.out]; exact hj)
        rwa [getI _ _ hj] at this)
      clear hall
      by_cases hok : COk m
      · have HCB := Lib.hid (circB_yes hok)
        have OK := Lib.hid hok
        clear hok
        by_cases h8 : r ≤ 8
        · have i8 : (r : Int) ≤ (8 : Int) := by omega
          have H8 := Lib.hid h8
          go_wp2_with (go_at_call 61; refine (specCircuitOk_c m _ wr (HV.out.grow G1.out)).mono ?_; rintro e w2 ⟨rfl, g2⟩; rw [HCB.out])
          go_ret
          exact ⟨retB (askQ_yes ⟨OK.out, by rw [HR.out]; exact H8.out, HALL.out⟩).symm, gbT G1.out g2⟩
        · have i8 : ¬ (r : Int) ≤ (8 : Int) := by omega
          have H8 := Lib.hid h8
          go_wp2_with (go_at_call 61; refine (specCircuitOk_c m _ wr (HV.out.grow G1.out)).mono ?_; rintro e w2 ⟨rfl, g2⟩; rw [HCB.out])
          go_ret
          exact ⟨retB (by rw [askQ_no fun h => H8.out (by rw [← HR.out]; exact h.2.1)]; simp; have := H8.out; omega), gbT G1.out g2⟩
      · have HCB := Lib.hid (circB_no hok)
        have NOK := Lib.hid hok
        clear hok
        go_wp2_with (go_at_call 61; refine (specCircuitOk_c m _ wr (HV.out.grow G1.out)).mono ?_; rintro e w2 ⟨rfl, g2⟩; rw [HCB.out])
        go_ret
        exact ⟨retB (askQ_no fun h => NOK.out h.1).symm, gbT G1.out g2⟩
set_option maxHeartbeats 1600000 in
set_option maxRecDepth 100000 in
theorem specl32One_c (m : CM) (s : Nat) (v : Value) (w0 : World) (h : AggR w0 (ccircuit m) v) (ok : COk m) (hql : m.outs.length ≤ 1048576) (hs : s < 4294967296) :
    Calls Try.prog 73 #[v, .int .i64 s] w0 fun e w' => ∃ V, e = .returned V ∧ aggF w0.heap.size (cpb (pubN m s)) V w' ∧ w0.grownBy w' none := by
  obtain ⟨u0, u1, rfl, h1, h2⟩ := ccircuit_open h
  obtain ⟨A, cA, rfl, hc, hm, hF⟩ := plst_rd (s := 3) (fun _ => rfl) (by omega) h1
  obtain ⟨B, cB, rfl, _, _, hB⟩ := cints_rd h2
  have OK := Lib.hid ok
  have HQL := Lib.hid hql
  have HSS := Lib.hid hs
  obtain ⟨q, hq⟩ : ∃ q, m.outs.length = q := ⟨_, rfl⟩
  obtain ⟨n, hn⟩ : ∃ n, m.gt.length = n := ⟨_, rfl⟩
  have HV := Lib.hid (show AggR w0 (ccircuit m) (.agg #[.slice A n cA, .slice B q cB]) by rw [← hn, ← hq]; exact h)
  rw [hn, hq]
  clear h h1 h2 hF hB hn hc hm ok hql hq hs
  obtain ⟨w1, hw1⟩ : ∃ x : World, (w0.alloc (.cells #[.slice A n cA, .slice B q cB] 28)).alloc (.cells #[.slice none 0 0, .slice none 0 0, .slice none 0 0] 70) = x := ⟨_, rfl⟩
  have G1 : Hid (w0.grownBy w1 none) := by rw [← hw1]; exact Lib.hid (gbA (gbA (gbR _ _) _) _)
  have D1 : Hid (Blk w1 w0.heap.size 28 #[.slice A n cA, .slice B q cB]) := by rw [← hw1]; exact Lib.hid ((Blk.new w0 _ _).grow (gbA (gbR _ _) _))
  have R1 : Hid (Blk w1 (w0.heap.size + 1) 70 #[.slice none 0 0, .slice none 0 0, .slice none 0 0]) := by rw [← hw1]; exact Lib.hid (Blk.new' _ _ _ _ (by simp))
  have c0 := D1.out.cell 0
  have c1 := D1.out.cell 1
  simp at c0 c1
  go_enter Try.func73, Try.ntmps73
  go_wp2_with fail
  clear c0 c1 hw1
  refine (specGarble_yes m s _ w1 (HV.out.grow G1.out) OK.out HSS.out).mono ?_
  rintro e w5 ⟨V5, rfl, o5, g5⟩
  obtain ⟨Zg, cz, Tg, ct, rfl, -, -⟩ := gar_open o5.rd
  have gx := gbA (gbR w5 none) (.cells #[.int .i64 (dltN s), .slice Zg (garZ s m.gt m.gt.length).length cz, .slice Tg (garT s m.gt m.gt.length).length ct] 100)
  have O5 := Lib.hid (o5.rd.grow gx)
  have D5 := D1.out.grow (gbT g5 gx)
  have R5 := Lib.hid (R1.out.grow (gbT g5 gx))
  have G5 := Lib.hid (gbT G1.out (gbT g5 gx))
  have hz1 := R1.out.lt
  have hz5 := g5.size
  clear o5 g5 gx R1 D1 G1
  generalize (garZ s m.gt m.gt.length).length = zl at *
  generalize (garT s m.gt m.gt.length).length = tl at *
  obtain ⟨dd, hdd⟩ : ∃ d, dltN s = d := ⟨_, rfl⟩
  have OP := fun (v u : Value) (w : World) (h : AggR w (ccircuit m) v) (hg : AggR w (cgarb (dltN s) (garZ s m.gt m.gt.length) (garT s m.gt m.gt.length)) u) => specPublicOf_yes m s v u w h OK.out HQL.out hg
  rw [hdd] at O5 D5 G5 R5 OP ⊢
  have HOP := Lib.hid OP
  clear OP
  clear hdd
  have c0 := D5.cell 0
  have c1 := D5.cell 1
  simp at c0 c1
  clear D5
  go_wp2_with fail
  clear c0 c1
  refine (HOP.out _ _ _ (HV.out.grow G5.out) O5.out).mono ?_
  rintro e w7 ⟨V7, rfl, o7, g7⟩
  have o7 : aggF (w0.heap.size + 2) (cpb (pubN m s)) V7 w7 := o7.lo (by simp; omega)
  obtain ⟨X0, x0, X1, x1, X2, x2, rfl, -, -, -⟩ := cpb_open o7.rd
  generalize (pubN m s).ts.length = l0 at *
  generalize (pubN m s).cs.length = l1 at *
  generalize (pubN m s).ds.length = l2 at *
  have gx := gbA (gbR w7 none) (.cells #[.slice X0 l0 x0, .slice X1 l1 x1, .slice X2 l2 x2] 70)
  obtain ⟨F9, o9, l9⟩ := o7.grow gx
  have R7 := R5.out.grow (gbT g7 gx)
  have RS := SOF.store R7 (us := [.slice X0 l0 x0, .slice X1 l1 x1, .slice X2 l2 x2]) rfl o9 (fun hx => by have := l9 _ hx; omega)
  simp only [setCells, Nat.zero_add, Nat.reduceAdd] at RS
  have r0 := R7.cell 0
  have r1 := R7.cell 1
  have r2 := R7.cell 2
  have f0 := R7.frozen 0
  have f1 := R7.frozen 1
  have f2 := R7.frozen 2
  simp at r0 r1 r2 f0 f1 f2
  have GE : Hid (w0.grownBy (setCells (w7.alloc (.cells #[.slice X0 l0 x0, .slice X1 l1 x1, .slice X2 l2 x2] 70)) (w0.heap.size + 1) 0 [.slice X0 l0 x0, .slice X1 l1 x1, .slice X2 l2 x2]) none) := Lib.hid (gb_chg (gbT G5.out (gbT g7 gx)) (chg_setCells _ _ _ _) (by omega))
  simp only [setCells, Nat.zero_add, Nat.reduceAdd] at GE
  have HRS := Lib.hid RS
  have HR7 := Lib.hid R7
  have HF9 := Lib.hid l9
  clear RS R7 o7 g7 gx o9 l9 R5 G5 O5 HOP
  go_wp2_with fail
  obtain ⟨vs, B9, o9⟩ := HRS.out.agg
  have B := ((HR7.out.set_ 0 (.slice X0 l0 x0)).set_ 1 (.slice X1 l1 x1)).set_ 2 (.slice X2 l2 x2)
  have e : some (Obj.cells vs.toArray 70 (0, 0)) = some (Obj.cells #[.slice X0 l0 x0, .slice X1 l1 x1, .slice X2 l2 x2] 70 (0, 0)) := B9.symm.trans B
  injection e with e
  injection e with e _
  rw [e] at o9 B9
  refine ret_c Try.results73 (by rfl) stPublic (cs := #[.slice X0 l0 x0, .slice X1 l1 x1, .slice X2 l2 x2]) B9 (by rfl) (by rfl) ?_
  exact ⟨_, rfl, ⟨F9, o9, fun x hx => by have := HF9.out _ hx; omega⟩, GE.out⟩
end Go.Proofs.Ythdfkiaoahpjpaa
/-
  CopiesNew of the reference: the answer for all arguments.
-/
namespace Go.Proofs.Ythdfkiaoahpjpaa
open Go.RowKit
set_option linter.unusedVariables false
set_option linter.unusedSimpArgs false
end Go.Proofs.Ythdfkiaoahpjpaa
