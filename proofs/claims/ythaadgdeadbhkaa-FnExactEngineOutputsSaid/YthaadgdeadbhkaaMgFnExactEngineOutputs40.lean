/-
  EngineOutputs of the program.
-/
import Derived.Test.YthaadgdeadbhkaaMgFnExactEngineOutputs36
import Derived.Test.YthaadgdeadbhkaaMgFnExactEngineOutputs39
import Derived.Test.YthaadgdeadbhkaaMgFnExactEngineOutputs28
namespace Go.Proofs.Ythaadgdeadbhkaa
open Go.RowKit
set_option linter.unusedVariables false
set_option linter.unusedSimpArgs false
theorem engOk_is {m : EM} (h : engOkB m = true) : keysB m.k = true ∧ AOk m.c ∧ m.k.p = m.c.p ∧ m.vs.length = m.c.st.length ∧ inQ m.rd 0 60 = true ∧ ∀ i, okV m.k (getA m.vs i) = true := by
  unfold engOkB at h
  simp only [Bool.and_eq_true, beq_iff_eq, decide_eq_true_eq, List.all_eq_true] at h
  obtain ⟨⟨⟨⟨⟨h1, h2⟩, h3⟩, h4⟩, h5⟩, h6⟩ := h
  refine ⟨h1, arithB_is h2, h3, h4, h5, fun i => ?_⟩
  rcases Nat.lt_or_ge i m.vs.length with h7 | h7
  · have : getA m.vs i = m.vs[i] := by unfold getA; rw [List.getD_eq_getElem?_getD, List.getElem?_eq_getElem h7]; rfl
    rw [this]
    exact h6 _ (List.getElem_mem h7)
  · rw [getA_out h7]
    exact okV_zero rfl
theorem okV_el {k : KM} {v : AuM} (hk : keysB k = true) (h : okV k v = true) : elemsB k.p v.sh = true := by
  unfold okV at h
  cases hz : zeroA v
  · rw [hz, Bool.false_or] at h
    exact (form_is h).2.2.2.1
  · unfold zeroA at hz
    simp only [Bool.and_eq_true, decide_eq_true_eq] at hz
    have : v.sh = [] := List.eq_nil_of_length_eq_zero hz.1
    rw [this]
    exact elemsB_mk (keys_is hk).1 (by simp)
theorem outs_at {m : EM} (h : AOk m.c) {j : Nat} (hj : j < m.c.outs.length) : ∃ z : Nat, m.c.outs.getD j 0 = z ∧ z < m.c.st.length := by
  have h1 := h.outs _ (getD_mem hj)
  simp [inB] at h1
  obtain ⟨z, hz⟩ := Int.eq_ofNat_of_zero_le (a := m.c.outs.getD j 0) (by simpa using h1.1)
  exact ⟨z, hz, by have := h1.2; simp at hz; omega⟩
def outTo (m : EM) (j : Nat) : List Int := (m.c.outs.take j).map fun z => fsum m.k.p (getA m.vs z.toNat).sh
theorem outTo_succ {m : EM} {j z : Nat} (hj : j < m.c.outs.length) (hz : m.c.outs.getD j 0 = z) : outTo m (j + 1) = outTo m j ++ [fsum m.k.p (getA m.vs z).sh] := by
  unfold outTo
  rw [take_snoc' _ j hj, List.map_append, hz]
  rfl
theorem outTo_len {m : EM} {j : Nat} (hj : j ≤ m.c.outs.length) : (outTo m j).length = j := by unfold outTo; simp; omega
def OutJ (m : EM) (w : World) (e : Ending) (w' : World) : Prop := ∃ V, e = .returned (.tuple #[V, .bool (outB m)]) ∧ w'.ownsRow w.heap.size 3 1 V (outR m).length ((outR m).map (Value.int .i64)) ∧ w.grownBy w' none
theorem OutJ.no {m : EM} {w w' : World} (h : outB m = false) (hg : w.grownBy w' none) : OutJ m w (.returned (.tuple #[.slice none 0 0, .bool false])) w' := by
  refine ⟨_, by rw [h], ?_, hg⟩
  unfold outR
  rw [h]
  exact World.ownsRow_nil w' _ _ _
set_option maxHeartbeats 4000000 in
set_option maxRecDepth 100000 in
theorem implEngineOutputs_c (m : EM) (v : Value) (w0 : World) (h : AggR w0 (cengine m) v) (wm : ewf m) :
    Calls Try.prog 17 #[v] w0 (OutJ m w0) := by
  obtain ⟨A, B, C, D, E, a, b, c, d, e, rfl, hR⟩ := cengine_open h
  obtain ⟨w1, hw1⟩ : ∃ x : World, w0.alloc (.cells #[.int .i64 m.k.p, .slice A m.k.al.length a, .int .i64 m.c.p, .slice B m.c.st.length b, .slice C m.c.outs.length c, .slice D m.vs.length d, .slice E m.op.length e, .int .i64 m.rd, .bool m.bad] 36) = x := ⟨_, rfl⟩
  have GW : Hid (w0.grownBy w1 none) := by rw [← hw1]; exact gbA (gbR _ _) _
  have D1 : Hid (Blk w1 w0.heap.size 36 #[.int .i64 m.k.p, .slice A m.k.al.length a, .int .i64 m.c.p, .slice B m.c.st.length b, .slice C m.c.outs.length c, .slice D m.vs.length d, .slice E m.op.length e, .int .i64 m.rd, .bool m.bad]) := by rw [← hw1]; exact Blk.new w0 _ _
  have R1 := Lib.hid (hR.grow GW.out)
  have WM := Lib.hid wm
  have HB : Hid (outB m = (engOkB m && !m.bad && m.c.outs.all fun z => out1 m z.toNat)) := rfl
  clear h hR wm
  go_enter Try.func17, Try.ntmps17
  have k0 := D1.out.cell 0
  have k1 := D1.out.cell 1
  have k2 := D1.out.cell 2
  have k3 := D1.out.cell 3
  have k4 := D1.out.cell 4
  have k5 := D1.out.cell 5
  have k6 := D1.out.cell 6
  have k7 := D1.out.cell 7
  have k8 := D1.out.cell 8
  simp at k0 k1 k2 k3 k4 k5 k6 k7 k8
  go_wp2_with fail
  clear hw1 k0 k1 k2 k3 k4 k5 k6 k7 k8
  refine (implEngineOk_c m _ _ R1.out.al9 WM.out).mono ?_
  rintro e' w2 ⟨rfl, g2⟩
  have G2 := Lib.hid g2
  have GZ := Lib.hid (gbT GW.out g2)
  have e8 := (D1.out.grow g2).cell 8
  simp at e8
  clear g2
  cases b1 : engOkB m
  · rw [b1] at HB
    clear e8 b1
    go_wp2_with fail
    refine bodyPost_ret (v := .tuple #[.slice none 0 0, .bool false]) (by simp [results, Try.results17]) rfl ?_
    exact OutJ.no (by rw [HB.out]; rfl) GZ.out
  have OKB := Lib.hid (engOk_is b1)
  rw [b1] at HB
  clear b1
  cases b2 : m.bad
  rotate_left
  · rw [b2] at HB
    rw [b2] at e8
    clear b2
    go_wp2_with fail
    refine bodyPost_ret (v := .tuple #[.slice none 0 0, .bool false]) (by simp [results, Try.results17]) rfl ?_
    exact OutJ.no (by rw [HB.out]; rfl) GZ.out
  rw [b2] at HB e8
  simp only [Bool.not_false, Bool.and_true, Bool.true_and] at HB
  obtain ⟨nO, hnO⟩ : ∃ n, m.c.outs.length = n := ⟨_, rfl⟩
  obtain ⟨n, hn⟩ : ∃ n, m.vs.length = n := ⟨_, rfl⟩
  have B2 := Lib.hid (D1.out.grow G2.out)
  rw [hnO, hn] at B2
  have LO := Lib.hid hnO
  have LN := Lib.hid hn
  have hO20 : nO ≤ 1048576 := by have := WM.out.c.outs; omega
  have hn60 : n ≤ 60 := by have := OKB.out.2.1.few; have := OKB.out.2.2.2.1; omega
  have e4 := B2.out.cell 4
  simp at e4
  have e4' := fun o => kA e4 o
  have P0 := Lib.hid (CS.grow _ R1.out.va G2.out)
  rw [LN.out] at P0
  have O0 := Lib.hid (R1.out.ou.grow G2.out)
  rw [LO.out] at O0
  have K2 := Lib.hid (R1.out.ky.grow G2.out)
  clear D1 hnO hn R1
  have hbd := Lib.hid b2
  clear b2
  go_wp2_with fail
  have OW0 : Hid ((w2.alloc (.cells #[] 3)).ownsRow w2.heap.size 3 1 (.slice (some ⟨w2.heap.size, 0, none⟩) 0 0) 0 ((outTo m 0).map (Value.int .i64))) := Lib.hid (World.ownsRow_made w2 #[] 0 (Nat.le_refl _) (by simp [outTo]) rfl)
  go_loopw [4, 20] (fun v i wr => ∃ k : Nat, k ≤ nO ∧ i = .int .i64 k ∧ Hid (wr.ownsRow w2.heap.size 3 1 v k ((outTo m k).map (Value.int .i64))) ∧ Hid (∀ q, q < k → out1 m (m.c.outs.getD q 0).toNat = true) ∧ Hid (w2.grownBy wr none)) (fun _ i _ => nO - (intOf i).toNat)
  case atStart => exact ⟨0, Nat.zero_le _, rfl, OW0, Lib.hid (fun q hq => by omega), Lib.hid (gbA (gbR _ _) _)⟩
  case round =>
    clear OW0
    obtain ⟨k, hk, rfl, hown, hO, hG⟩ := hrel
    by_cases hlt : k < nO
    · have i1 : (k : Int) < (nO : Int) := by omega
      obtain ⟨z, hz, hzn⟩ := outs_at OKB.out.2.1 (j := k) (by rw [LO.out]; exact hlt)
      have hzn : z < n := by have := OKB.out.2.2.2.1; have := LN.out; omega
      have i2 : (z : Int) < (n : Int) := by omega
      obtain ⟨ob, oo, rfl, hob, hoc⟩ := (O0.out.grow hG.out).at_ (by omega)
      have oc := hoc k hlt
      rw [hz] at oc
      obtain ⟨b, o, x, Bx, dx, Cx, fx, rfl, hb, hx, q0, q1, hX⟩ := cauths_at (CS.grow _ P0.out hG.out) hzn
      have hxg : getA m.vs z = x := by unfold getA; rw [List.getD_eq_getElem?_getD, hx]; rfl
      have WX := Lib.hid (WM.out.vs x (List.mem_of_getElem? hx))
      have HXG := Lib.hid hxg
      have HX := Lib.hid hX
      have HZ9 := Lib.hid hz
      have OKX := OKB.out.2.2.2.2.2 z
      rw [hxg] at OKX
      have EX := Lib.hid (okV_el OKB.out.1 OKX)
      have Q0 := Lib.hid q0
      have Q1 := Lib.hid q1
      have C0 := Lib.hid ((B2.out.grow hG.out).cell 0)
      have C1 := Lib.hid ((B2.out.grow hG.out).cell 1)
      have C5 := Lib.hid ((B2.out.grow hG.out).cell 5)
      simp only [List.getElem?_toArray, List.getElem?_cons_succ, List.getElem?_cons_zero] at C0 C1 C5
      have KW := Lib.hid (K2.out.grow hG.out)
      have HO1 : Hid (out1 m z = (!zeroA x && macCheck m.k (fsum m.k.p x.sh) x)) := by unfold Hid out1; rw [hxg]
      obtain ⟨val, hval⟩ : ∃ q, fsum m.k.p x.sh = q := ⟨_, rfl⟩
      rw [hval] at HO1
      have HVAL := Lib.hid hval
      clear hoc hx hX hxg hz OKX q0 q1 hval
      go_wp2_with fail
      clear oc
      refine region_grow [isV (.pointer (some ⟨w0.heap.size, 0, none⟩)), isV (.agg #[.int .i64 m.k.p, .slice A m.k.al.length a]), isV (.pointer (some ⟨w0.heap.size, 5, none⟩)), isV (.slice (some ⟨b, o, none⟩) n d), isV (.int .i64 z), isV (.pointer (some ⟨b, o + z * 2, none⟩)), isV (.agg #[.slice Bx x.sh.length dx, .slice Cx x.mc.length fx]), isV (.int .i64 val), isV (.int .i64 val)] (by kernel_rfl) (by kernel_rfl) (by kernel_rfl) (by simp [stables, isV_st]) ?_ ?_
      · simp only [hops, and_true]
        refine ⟨?_, ?_, ?_, ?_, ?_, ?_, ?_, ?_, ?_⟩
        · intro f w1 hG hd
          have hg4 := gbT (gbD (gbR wr none)) hG
          simp [deps, tAt, isV] at hd
          first | simp [puts, dsts, Act.put, hd] | simp [puts, dsts, Act.put]
          clear hd
          go_wp2_with fail
          exact ⟨_, rfl, by with_reducible exact gbR _ _, by simp [tAt, isV]⟩
        · intro f w1 hG hd
          have hg4 := gbT (gbD (gbR wr none)) hG
          have k0 := gbk hg4 (C0.out)
          have k1 := gbk hg4 (C1.out)
          simp [deps, tAt, isV] at hd
          first | simp [puts, dsts, Act.put, hd] | simp [puts, dsts, Act.put]
          clear hd
          go_wp2_with fail
          exact ⟨_, rfl, by with_reducible exact gbR _ _, by simp [tAt, isV]⟩
        · intro f w1 hG hd
          have hg4 := gbT (gbD (gbR wr none)) hG
          simp [deps, tAt, isV] at hd
          first | simp [puts, dsts, Act.put, hd] | simp [puts, dsts, Act.put]
          clear hd
          go_wp2_with fail
          exact ⟨_, rfl, by with_reducible exact gbR _ _, by simp [tAt, isV]⟩
        · intro f w1 hG hd
          have hg4 := gbT (gbD (gbR wr none)) hG
          have k2 := gbk hg4 (C5.out)
          simp [deps, tAt, isV] at hd
          first | simp [puts, dsts, Act.put, hd] | simp [puts, dsts, Act.put]
          clear hd
          go_wp2_with fail
          exact ⟨_, rfl, by with_reducible exact gbR _ _, by simp [tAt, isV]⟩
        · intro f w1 hG hd
          have hg4 := gbT (gbD (gbR wr none)) hG
          simp [deps, tAt, isV] at hd
          first | simp [puts, dsts, Act.put, hd] | simp [puts, dsts, Act.put]
          clear hd
          go_wp2_with fail
          exact ⟨_, rfl, by with_reducible exact gbR _ _, by simp [tAt, isV]⟩
        · intro f w1 hG hd
          have hg4 := gbT (gbD (gbR wr none)) hG
          simp [deps, tAt, isV] at hd
          first | simp [puts, dsts, Act.put, hd] | simp [puts, dsts, Act.put]
          clear hd
          go_wp2_with fail
          exact ⟨_, rfl, by with_reducible exact gbR _ _, by simp [tAt, isV]⟩
        · intro f w1 hG hd
          have hg4 := gbT (gbD (gbR wr none)) hG
          have k3 := gbk hg4 (Q0.out)
          have k4 := gbk hg4 (Q1.out)
          simp [deps, tAt, isV] at hd
          first | simp [puts, dsts, Act.put, hd] | simp [puts, dsts, Act.put]
          clear hd
          go_wp2_with fail
          exact ⟨_, rfl, by with_reducible exact gbR _ _, by simp [tAt, isV]⟩
        · intro f w1 hG hd
          have hg4 := gbT (gbD (gbR wr none)) hG
          simp [deps, tAt, isV] at hd
          first | simp [puts, dsts, Act.put, hd] | simp [puts, dsts, Act.put]
          clear hd
          go_wp2_with fail
          refine (implvalueIn_y m.k x _ _ w1 (KW.out.grow hg4) (HX.out.grow hg4) EX.out WX.out).mono ?_; rintro e w6 ⟨rfl, hw⟩; rw [HVAL.out]
          go_wp2_with fail
          exact ⟨_, rfl, by first | with_reducible exact gbR _ _ | exact hw, by simp [tAt, isV]⟩
        · intro f w1 hG hd
          have hg4 := gbT (gbD (gbR wr none)) hG
          simp [deps, tAt, isV] at hd
          first | simp [puts, dsts, Act.put, hd] | simp [puts, dsts, Act.put]
          clear hd
          go_wp2_with fail
          exact ⟨_, rfl, by with_reducible exact gbR _ _, by simp [tAt, isV]⟩
      intro f w5 hG hd
      simp [knows, tAt, isV] at hd
      obtain ⟨h0_, h1_, h2_, h3_, h4_, h5_, h6_, h7_, h8_⟩ := hd
      simp only [puts, dsts, Act.put, h0_, h1_, h2_, h3_, h4_, h5_, h6_, h7_, h8_, List.filterMap_cons, List.filterMap_nil, List.setIfInBounds_toArray, List.set_cons_zero, List.set_cons_succ]
      clear h0_ h1_ h2_ h3_ h4_ h5_ h6_ h7_ h8_
      have g5 := gbT (gbD (gbR wr none)) hG
      clear hG
      have GA := Lib.hid (gbT hG.out g5)
      have OW1 := Lib.hid (own_grow hown.out g5)
      have C0' := Lib.hid (gbk g5 C0.out)
      have C1' := Lib.hid (gbk g5 C1.out)
      have C5' := Lib.hid (gbk g5 C5.out)
      have Q0' := Lib.hid (gbk g5 Q0.out)
      have Q1' := Lib.hid (gbk g5 Q1.out)
      have KW' := Lib.hid (KW.out.grow g5)
      have HX' := Lib.hid (HX.out.grow g5)
      have HVE : Hid (elemB m.k.p val = true) := by rw [← HVAL.out]; exact Lib.hid (fsum_elem (keys_is OKB.out.1).1 _)
      clear g5 C0 C1 C5 Q0 Q1 KW HX hown
      go_wp2_with fail
      cases hz : zeroA x
      rotate_left
      · rw [hz] at HO1
        have hno : outB m = false := by
          rw [HB.out, List.all_eq_false]
          exact ⟨m.c.outs.getD k 0, getD_mem (by rw [LO.out]; exact hlt), by rw [HZ9.out, Int.toNat_natCast, HO1.out]; simp⟩
        have HNO := Lib.hid hno
        clear hno
        refine region_grow [isV (.pointer (some ⟨w0.heap.size, 5, none⟩)), isV (.slice (some ⟨b, o, none⟩) n d), isV (.int .i64 z), isV (.pointer (some ⟨b, o + z * 2, none⟩)), isV (.agg #[.slice Bx x.sh.length dx, .slice Cx x.mc.length fx]), isV (.bool true), isV (.bool true), isV (undef), isV (undef), isV (undef), isV (undef), isV (undef), isV (undef), isV (undef), isV (undef), isV (undef), isV (undef), isV (.bool true)] (by kernel_rfl) (by kernel_rfl) (by kernel_rfl) (by simp [stables, isV_st]) ?_ ?_
        · simp only [hops, and_true]
          refine ⟨?_, ?_, ?_, ?_, ?_, ?_, ?_, ?_, ?_, ?_, ?_, ?_, ?_, ?_, ?_, ?_, ?_, ?_⟩
          · intro f w1 hG hd
            have hg4 := gbT (gbD (gbR w5 none)) hG
            simp [deps, tAt, isV] at hd
            first | simp [puts, dsts, Act.put, hd] | simp [puts, dsts, Act.put]
            clear hd
            go_wp2_with fail
            exact ⟨_, rfl, by with_reducible exact gbR _ _, by simp [tAt, isV]⟩
          · intro f w1 hG hd
            have hg4 := gbT (gbD (gbR w5 none)) hG
            have k2 := gbk hg4 (C5'.out)
            simp [deps, tAt, isV] at hd
            first | simp [puts, dsts, Act.put, hd] | simp [puts, dsts, Act.put]
            clear hd
            go_wp2_with fail
            exact ⟨_, rfl, by with_reducible exact gbR _ _, by simp [tAt, isV]⟩
          · intro f w1 hG hd
            have hg4 := gbT (gbD (gbR w5 none)) hG
            simp [deps, tAt, isV] at hd
            first | simp [puts, dsts, Act.put, hd] | simp [puts, dsts, Act.put]
            clear hd
            go_wp2_with fail
            exact ⟨_, rfl, by with_reducible exact gbR _ _, by simp [tAt, isV]⟩
          · intro f w1 hG hd
            have hg4 := gbT (gbD (gbR w5 none)) hG
            simp [deps, tAt, isV] at hd
            first | simp [puts, dsts, Act.put, hd] | simp [puts, dsts, Act.put]
            clear hd
            go_wp2_with fail
            exact ⟨_, rfl, by with_reducible exact gbR _ _, by simp [tAt, isV]⟩
          · intro f w1 hG hd
            have hg4 := gbT (gbD (gbR w5 none)) hG
            have k3 := gbk hg4 (Q0'.out)
            have k4 := gbk hg4 (Q1'.out)
            simp [deps, tAt, isV] at hd
            first | simp [puts, dsts, Act.put, hd] | simp [puts, dsts, Act.put]
            clear hd
            go_wp2_with fail
            exact ⟨_, rfl, by with_reducible exact gbR _ _, by simp [tAt, isV]⟩
          · intro f w1 hG hd
            have hg4 := gbT (gbD (gbR w5 none)) hG
            simp [deps, tAt, isV] at hd
            first | simp [puts, dsts, Act.put, hd] | simp [puts, dsts, Act.put]
            clear hd
            go_wp2_with fail
            refine (implisZeroAuth_c x _ w1 (HX'.out.grow hg4)).mono ?_; rintro e w6 ⟨rfl, hw⟩; rw [hz]
            go_wp2_with fail
            exact ⟨_, rfl, by first | with_reducible exact gbR _ _ | exact hw, by simp [tAt, isV]⟩
          · intro f w1 hG hd
            have hg4 := gbT (gbD (gbR w5 none)) hG
            simp [deps, tAt, isV] at hd
            first | simp [puts, dsts, Act.put, hd] | simp [puts, dsts, Act.put]
            clear hd
            go_wp2_with fail
            exact ⟨_, rfl, by with_reducible exact gbR _ _, by simp [tAt, isV]⟩
          · intro f w1 hG hd
            have hg4 := gbT (gbD (gbR w5 none)) hG
            simp [deps, tAt, isV] at hd
            first | simp [puts, dsts, Act.put, hd] | simp [puts, dsts, Act.put]
            clear hd
            go_wp2_with fail
            exact ⟨_, rfl, by with_reducible exact gbR _ _, by simp [tAt, isV]⟩
          · intro f w1 hG hd
            have hg4 := gbT (gbD (gbR w5 none)) hG
            simp [deps, tAt, isV] at hd
            first | simp [puts, dsts, Act.put, hd] | simp [puts, dsts, Act.put]
            clear hd
            go_wp2_with fail
            exact ⟨_, rfl, by with_reducible exact gbR _ _, by simp [tAt, isV]⟩
          · intro f w1 hG hd
            have hg4 := gbT (gbD (gbR w5 none)) hG
            simp [deps, tAt, isV] at hd
            first | simp [puts, dsts, Act.put, hd] | simp [puts, dsts, Act.put]
            clear hd
            go_wp2_with fail
            exact ⟨_, rfl, by with_reducible exact gbR _ _, by simp [tAt, isV]⟩
          · intro f w1 hG hd
            have hg4 := gbT (gbD (gbR w5 none)) hG
            simp [deps, tAt, isV] at hd
            first | simp [puts, dsts, Act.put, hd] | simp [puts, dsts, Act.put]
            clear hd
            go_wp2_with fail
            exact ⟨_, rfl, by with_reducible exact gbR _ _, by simp [tAt, isV]⟩
          · intro f w1 hG hd
            have hg4 := gbT (gbD (gbR w5 none)) hG
            simp [deps, tAt, isV] at hd
            first | simp [puts, dsts, Act.put, hd] | simp [puts, dsts, Act.put]
            clear hd
            go_wp2_with fail
            exact ⟨_, rfl, by with_reducible exact gbR _ _, by simp [tAt, isV]⟩
          · intro f w1 hG hd
            have hg4 := gbT (gbD (gbR w5 none)) hG
            simp [deps, tAt, isV] at hd
            first | simp [puts, dsts, Act.put, hd] | simp [puts, dsts, Act.put]
            clear hd
            go_wp2_with fail
            exact ⟨_, rfl, by with_reducible exact gbR _ _, by simp [tAt, isV]⟩
          · intro f w1 hG hd
            have hg4 := gbT (gbD (gbR w5 none)) hG
            simp [deps, tAt, isV] at hd
            first | simp [puts, dsts, Act.put, hd] | simp [puts, dsts, Act.put]
            clear hd
            go_wp2_with fail
            exact ⟨_, rfl, by with_reducible exact gbR _ _, by simp [tAt, isV]⟩
          · intro f w1 hG hd
            have hg4 := gbT (gbD (gbR w5 none)) hG
            simp [deps, tAt, isV] at hd
            first | simp [puts, dsts, Act.put, hd] | simp [puts, dsts, Act.put]
            clear hd
            go_wp2_with fail
            exact ⟨_, rfl, by with_reducible exact gbR _ _, by simp [tAt, isV]⟩
          · intro f w1 hG hd
            have hg4 := gbT (gbD (gbR w5 none)) hG
            simp [deps, tAt, isV] at hd
            first | simp [puts, dsts, Act.put, hd] | simp [puts, dsts, Act.put]
            clear hd
            go_wp2_with fail
            exact ⟨_, rfl, by with_reducible exact gbR _ _, by simp [tAt, isV]⟩
          · intro f w1 hG hd
            have hg4 := gbT (gbD (gbR w5 none)) hG
            simp [deps, tAt, isV] at hd
            first | simp [puts, dsts, Act.put, hd] | simp [puts, dsts, Act.put]
            clear hd
            go_wp2_with fail
            exact ⟨_, rfl, by with_reducible exact gbR _ _, by simp [tAt, isV]⟩
          · intro f w1 hG hd
            have hg4 := gbT (gbD (gbR w5 none)) hG
            simp [deps, tAt, isV] at hd
            first | simp [puts, dsts, Act.put, hd] | simp [puts, dsts, Act.put]
            clear hd
            go_wp2_with fail
            exact ⟨_, rfl, by with_reducible exact gbR _ _, by simp [tAt, isV]⟩
        intro f w8 hG hd
        simp [knows, tAt, isV] at hd
        obtain ⟨h0_, h1_, h2_, h3_, h4_, h5_, h6_, h7_, h8_, h9_, h10_, h11_, h12_, h13_, h14_, h15_, h16_, h17_⟩ := hd
        simp only [puts, dsts, Act.put, h0_, h1_, h2_, h3_, h4_, h5_, h6_, h7_, h8_, h9_, h10_, h11_, h12_, h13_, h14_, h15_, h16_, h17_, List.filterMap_cons, List.filterMap_nil, List.setIfInBounds_toArray, List.set_cons_zero, List.set_cons_succ]
        clear h0_ h1_ h2_ h3_ h4_ h5_ h6_ h7_ h8_ h9_ h10_ h11_ h12_ h13_ h14_ h15_ h16_ h17_
        have g8 := gbT (gbD (gbR w5 none)) hG
        clear hG
        have G9 := Lib.hid (gbT GZ.out (gbT GA.out g8))
        clear g8
        go_wp2_with fail
        refine bodyPost_ret (v := .tuple #[.slice none 0 0, .bool false]) (by simp [results, Try.results17]) rfl ?_
        exact OutJ.no HNO.out G9.out
      rw [hz, Bool.not_false, Bool.true_and] at HO1
      cases hmc : macCheck m.k val x
      · rw [hmc] at HO1
        have hno : outB m = false := by
          rw [HB.out, List.all_eq_false]
          exact ⟨m.c.outs.getD k 0, getD_mem (by rw [LO.out]; exact hlt), by rw [HZ9.out, Int.toNat_natCast, HO1.out]; simp⟩
        have HNO := Lib.hid hno
        clear hno
        refine region_grow [isV (.pointer (some ⟨w0.heap.size, 5, none⟩)), isV (.slice (some ⟨b, o, none⟩) n d), isV (.int .i64 z), isV (.pointer (some ⟨b, o + z * 2, none⟩)), isV (.agg #[.slice Bx x.sh.length dx, .slice Cx x.mc.length fx]), isV (.bool false), isV (.bool false), isV (.pointer (some ⟨w0.heap.size, 0, none⟩)), isV (.agg #[.int .i64 m.k.p, .slice A m.k.al.length a]), isV (.int .i64 val), isV (.pointer (some ⟨w0.heap.size, 5, none⟩)), isV (.slice (some ⟨b, o, none⟩) n d), isV (.int .i64 z), isV (.pointer (some ⟨b, o + z * 2, none⟩)), isV (.agg #[.slice Bx x.sh.length dx, .slice Cx x.mc.length fx]), isV (.bool false), isV (.bool true), isV (.bool true)] (by kernel_rfl) (by kernel_rfl) (by kernel_rfl) (by simp [stables, isV_st]) ?_ ?_
        · simp only [hops, and_true]
          refine ⟨?_, ?_, ?_, ?_, ?_, ?_, ?_, ?_, ?_, ?_, ?_, ?_, ?_, ?_, ?_, ?_, ?_, ?_⟩
          · intro f w1 hG hd
            have hg4 := gbT (gbD (gbR w5 none)) hG
            simp [deps, tAt, isV] at hd
            first | simp [puts, dsts, Act.put, hd] | simp [puts, dsts, Act.put]
            clear hd
            go_wp2_with fail
            exact ⟨_, rfl, by with_reducible exact gbR _ _, by simp [tAt, isV]⟩
          · intro f w1 hG hd
            have hg4 := gbT (gbD (gbR w5 none)) hG
            have k2 := gbk hg4 (C5'.out)
            simp [deps, tAt, isV] at hd
            first | simp [puts, dsts, Act.put, hd] | simp [puts, dsts, Act.put]
            clear hd
            go_wp2_with fail
            exact ⟨_, rfl, by with_reducible exact gbR _ _, by simp [tAt, isV]⟩
          · intro f w1 hG hd
            have hg4 := gbT (gbD (gbR w5 none)) hG
            simp [deps, tAt, isV] at hd
            first | simp [puts, dsts, Act.put, hd] | simp [puts, dsts, Act.put]
            clear hd
            go_wp2_with fail
            exact ⟨_, rfl, by with_reducible exact gbR _ _, by simp [tAt, isV]⟩
          · intro f w1 hG hd
            have hg4 := gbT (gbD (gbR w5 none)) hG
            simp [deps, tAt, isV] at hd
            first | simp [puts, dsts, Act.put, hd] | simp [puts, dsts, Act.put]
            clear hd
            go_wp2_with fail
            exact ⟨_, rfl, by with_reducible exact gbR _ _, by simp [tAt, isV]⟩
          · intro f w1 hG hd
            have hg4 := gbT (gbD (gbR w5 none)) hG
            have k3 := gbk hg4 (Q0'.out)
            have k4 := gbk hg4 (Q1'.out)
            simp [deps, tAt, isV] at hd
            first | simp [puts, dsts, Act.put, hd] | simp [puts, dsts, Act.put]
            clear hd
            go_wp2_with fail
            exact ⟨_, rfl, by with_reducible exact gbR _ _, by simp [tAt, isV]⟩
          · intro f w1 hG hd
            have hg4 := gbT (gbD (gbR w5 none)) hG
            simp [deps, tAt, isV] at hd
            first | simp [puts, dsts, Act.put, hd] | simp [puts, dsts, Act.put]
            clear hd
            go_wp2_with fail
            refine (implisZeroAuth_c x _ w1 (HX'.out.grow hg4)).mono ?_; rintro e w6 ⟨rfl, hw⟩; rw [hz]
            go_wp2_with fail
            exact ⟨_, rfl, by first | with_reducible exact gbR _ _ | exact hw, by simp [tAt, isV]⟩
          · intro f w1 hG hd
            have hg4 := gbT (gbD (gbR w5 none)) hG
            simp [deps, tAt, isV] at hd
            first | simp [puts, dsts, Act.put, hd] | simp [puts, dsts, Act.put]
            clear hd
            go_wp2_with fail
            exact ⟨_, rfl, by with_reducible exact gbR _ _, by simp [tAt, isV]⟩
          · intro f w1 hG hd
            have hg4 := gbT (gbD (gbR w5 none)) hG
            simp [deps, tAt, isV] at hd
            first | simp [puts, dsts, Act.put, hd] | simp [puts, dsts, Act.put]
            clear hd
            go_wp2_with fail
            exact ⟨_, rfl, by with_reducible exact gbR _ _, by simp [tAt, isV]⟩
          · intro f w1 hG hd
            have hg4 := gbT (gbD (gbR w5 none)) hG
            have k0 := gbk hg4 (C0'.out)
            have k1 := gbk hg4 (C1'.out)
            simp [deps, tAt, isV] at hd
            first | simp [puts, dsts, Act.put, hd] | simp [puts, dsts, Act.put]
            clear hd
            go_wp2_with fail
            exact ⟨_, rfl, by with_reducible exact gbR _ _, by simp [tAt, isV]⟩
          · intro f w1 hG hd
            have hg4 := gbT (gbD (gbR w5 none)) hG
            simp [deps, tAt, isV] at hd
            first | simp [puts, dsts, Act.put, hd] | simp [puts, dsts, Act.put]
            clear hd
            go_wp2_with fail
            exact ⟨_, rfl, by with_reducible exact gbR _ _, by simp [tAt, isV]⟩
          · intro f w1 hG hd
            have hg4 := gbT (gbD (gbR w5 none)) hG
            simp [deps, tAt, isV] at hd
            first | simp [puts, dsts, Act.put, hd] | simp [puts, dsts, Act.put]
            clear hd
            go_wp2_with fail
            exact ⟨_, rfl, by with_reducible exact gbR _ _, by simp [tAt, isV]⟩
          · intro f w1 hG hd
            have hg4 := gbT (gbD (gbR w5 none)) hG
            have k2 := gbk hg4 (C5'.out)
            simp [deps, tAt, isV] at hd
            first | simp [puts, dsts, Act.put, hd] | simp [puts, dsts, Act.put]
            clear hd
            go_wp2_with fail
            exact ⟨_, rfl, by with_reducible exact gbR _ _, by simp [tAt, isV]⟩
          · intro f w1 hG hd
            have hg4 := gbT (gbD (gbR w5 none)) hG
            simp [deps, tAt, isV] at hd
            first | simp [puts, dsts, Act.put, hd] | simp [puts, dsts, Act.put]
            clear hd
            go_wp2_with fail
            exact ⟨_, rfl, by with_reducible exact gbR _ _, by simp [tAt, isV]⟩
          · intro f w1 hG hd
            have hg4 := gbT (gbD (gbR w5 none)) hG
            simp [deps, tAt, isV] at hd
            first | simp [puts, dsts, Act.put, hd] | simp [puts, dsts, Act.put]
            clear hd
            go_wp2_with fail
            exact ⟨_, rfl, by with_reducible exact gbR _ _, by simp [tAt, isV]⟩
          · intro f w1 hG hd
            have hg4 := gbT (gbD (gbR w5 none)) hG
            have k3 := gbk hg4 (Q0'.out)
            have k4 := gbk hg4 (Q1'.out)
            simp [deps, tAt, isV] at hd
            first | simp [puts, dsts, Act.put, hd] | simp [puts, dsts, Act.put]
            clear hd
            go_wp2_with fail
            exact ⟨_, rfl, by with_reducible exact gbR _ _, by simp [tAt, isV]⟩
          · intro f w1 hG hd
            have hg4 := gbT (gbD (gbR w5 none)) hG
            simp [deps, tAt, isV] at hd
            first | simp [puts, dsts, Act.put, hd] | simp [puts, dsts, Act.put]
            clear hd
            go_wp2_with fail
            refine (implMacCheck_c m.k val x _ _ w1 (KW'.out.grow hg4) (HX'.out.grow hg4) WM.out.k WX.out).mono ?_; rintro e w6 ⟨rfl, hw⟩; rw [hmc]
            go_wp2_with fail
            exact ⟨_, rfl, by first | with_reducible exact gbR _ _ | exact hw, by simp [tAt, isV]⟩
          · intro f w1 hG hd
            have hg4 := gbT (gbD (gbR w5 none)) hG
            simp [deps, tAt, isV] at hd
            first | simp [puts, dsts, Act.put, hd] | simp [puts, dsts, Act.put]
            clear hd
            go_wp2_with fail
            exact ⟨_, rfl, by with_reducible exact gbR _ _, by simp [tAt, isV]⟩
          · intro f w1 hG hd
            have hg4 := gbT (gbD (gbR w5 none)) hG
            simp [deps, tAt, isV] at hd
            first | simp [puts, dsts, Act.put, hd] | simp [puts, dsts, Act.put]
            clear hd
            go_wp2_with fail
            exact ⟨_, rfl, by with_reducible exact gbR _ _, by simp [tAt, isV]⟩
        intro f w8 hG hd
        simp [knows, tAt, isV] at hd
        obtain ⟨h0_, h1_, h2_, h3_, h4_, h5_, h6_, h7_, h8_, h9_, h10_, h11_, h12_, h13_, h14_, h15_, h16_, h17_⟩ := hd
        simp only [puts, dsts, Act.put, h0_, h1_, h2_, h3_, h4_, h5_, h6_, h7_, h8_, h9_, h10_, h11_, h12_, h13_, h14_, h15_, h16_, h17_, List.filterMap_cons, List.filterMap_nil, List.setIfInBounds_toArray, List.set_cons_zero, List.set_cons_succ]
        clear h0_ h1_ h2_ h3_ h4_ h5_ h6_ h7_ h8_ h9_ h10_ h11_ h12_ h13_ h14_ h15_ h16_ h17_
        have g8 := gbT (gbD (gbR w5 none)) hG
        clear hG
        have G9 := Lib.hid (gbT GZ.out (gbT GA.out g8))
        clear g8
        go_wp2_with fail
        refine bodyPost_ret (v := .tuple #[.slice none 0 0, .bool false]) (by simp [results, Try.results17]) rfl ?_
        exact OutJ.no HNO.out G9.out
      · rw [hmc] at HO1
        refine region_grow [isV (.pointer (some ⟨w0.heap.size, 5, none⟩)), isV (.slice (some ⟨b, o, none⟩) n d), isV (.int .i64 z), isV (.pointer (some ⟨b, o + z * 2, none⟩)), isV (.agg #[.slice Bx x.sh.length dx, .slice Cx x.mc.length fx]), isV (.bool false), isV (.bool false), isV (.pointer (some ⟨w0.heap.size, 0, none⟩)), isV (.agg #[.int .i64 m.k.p, .slice A m.k.al.length a]), isV (.int .i64 val), isV (.pointer (some ⟨w0.heap.size, 5, none⟩)), isV (.slice (some ⟨b, o, none⟩) n d), isV (.int .i64 z), isV (.pointer (some ⟨b, o + z * 2, none⟩)), isV (.agg #[.slice Bx x.sh.length dx, .slice Cx x.mc.length fx]), isV (.bool true), isV (.bool false), isV (.bool false)] (by kernel_rfl) (by kernel_rfl) (by kernel_rfl) (by simp [stables, isV_st]) ?_ ?_
        · simp only [hops, and_true]
          refine ⟨?_, ?_, ?_, ?_, ?_, ?_, ?_, ?_, ?_, ?_, ?_, ?_, ?_, ?_, ?_, ?_, ?_, ?_⟩
          · intro f w1 hG hd
            have hg4 := gbT (gbD (gbR w5 none)) hG
            simp [deps, tAt, isV] at hd
            first | simp [puts, dsts, Act.put, hd] | simp [puts, dsts, Act.put]
            clear hd
            go_wp2_with fail
            exact ⟨_, rfl, by with_reducible exact gbR _ _, by simp [tAt, isV]⟩
          · intro f w1 hG hd
            have hg4 := gbT (gbD (gbR w5 none)) hG
            have k2 := gbk hg4 (C5'.out)
            simp [deps, tAt, isV] at hd
            first | simp [puts, dsts, Act.put, hd] | simp [puts, dsts, Act.put]
            clear hd
            go_wp2_with fail
            exact ⟨_, rfl, by with_reducible exact gbR _ _, by simp [tAt, isV]⟩
          · intro f w1 hG hd
            have hg4 := gbT (gbD (gbR w5 none)) hG
            simp [deps, tAt, isV] at hd
            first | simp [puts, dsts, Act.put, hd] | simp [puts, dsts, Act.put]
            clear hd
            go_wp2_with fail
            exact ⟨_, rfl, by with_reducible exact gbR _ _, by simp [tAt, isV]⟩
          · intro f w1 hG hd
            have hg4 := gbT (gbD (gbR w5 none)) hG
            simp [deps, tAt, isV] at hd
            first | simp [puts, dsts, Act.put, hd] | simp [puts, dsts, Act.put]
            clear hd
            go_wp2_with fail
            exact ⟨_, rfl, by with_reducible exact gbR _ _, by simp [tAt, isV]⟩
          · intro f w1 hG hd
            have hg4 := gbT (gbD (gbR w5 none)) hG
            have k3 := gbk hg4 (Q0'.out)
            have k4 := gbk hg4 (Q1'.out)
            simp [deps, tAt, isV] at hd
            first | simp [puts, dsts, Act.put, hd] | simp [puts, dsts, Act.put]
            clear hd
            go_wp2_with fail
            exact ⟨_, rfl, by with_reducible exact gbR _ _, by simp [tAt, isV]⟩
          · intro f w1 hG hd
            have hg4 := gbT (gbD (gbR w5 none)) hG
            simp [deps, tAt, isV] at hd
            first | simp [puts, dsts, Act.put, hd] | simp [puts, dsts, Act.put]
            clear hd
            go_wp2_with fail
            refine (implisZeroAuth_c x _ w1 (HX'.out.grow hg4)).mono ?_; rintro e w6 ⟨rfl, hw⟩; rw [hz]
            go_wp2_with fail
            exact ⟨_, rfl, by first | with_reducible exact gbR _ _ | exact hw, by simp [tAt, isV]⟩
          · intro f w1 hG hd
            have hg4 := gbT (gbD (gbR w5 none)) hG
            simp [deps, tAt, isV] at hd
            first | simp [puts, dsts, Act.put, hd] | simp [puts, dsts, Act.put]
            clear hd
            go_wp2_with fail
            exact ⟨_, rfl, by with_reducible exact gbR _ _, by simp [tAt, isV]⟩
          · intro f w1 hG hd
            have hg4 := gbT (gbD (gbR w5 none)) hG
            simp [deps, tAt, isV] at hd
            first | simp [puts, dsts, Act.put, hd] | simp [puts, dsts, Act.put]
            clear hd
            go_wp2_with fail
            exact ⟨_, rfl, by with_reducible exact gbR _ _, by simp [tAt, isV]⟩
          · intro f w1 hG hd
            have hg4 := gbT (gbD (gbR w5 none)) hG
            have k0 := gbk hg4 (C0'.out)
            have k1 := gbk hg4 (C1'.out)
            simp [deps, tAt, isV] at hd
            first | simp [puts, dsts, Act.put, hd] | simp [puts, dsts, Act.put]
            clear hd
            go_wp2_with fail
            exact ⟨_, rfl, by with_reducible exact gbR _ _, by simp [tAt, isV]⟩
          · intro f w1 hG hd
            have hg4 := gbT (gbD (gbR w5 none)) hG
            simp [deps, tAt, isV] at hd
            first | simp [puts, dsts, Act.put, hd] | simp [puts, dsts, Act.put]
            clear hd
            go_wp2_with fail
            exact ⟨_, rfl, by with_reducible exact gbR _ _, by simp [tAt, isV]⟩
          · intro f w1 hG hd
            have hg4 := gbT (gbD (gbR w5 none)) hG
            simp [deps, tAt, isV] at hd
            first | simp [puts, dsts, Act.put, hd] | simp [puts, dsts, Act.put]
            clear hd
            go_wp2_with fail
            exact ⟨_, rfl, by with_reducible exact gbR _ _, by simp [tAt, isV]⟩
          · intro f w1 hG hd
            have hg4 := gbT (gbD (gbR w5 none)) hG
            have k2 := gbk hg4 (C5'.out)
            simp [deps, tAt, isV] at hd
            first | simp [puts, dsts, Act.put, hd] | simp [puts, dsts, Act.put]
            clear hd
            go_wp2_with fail
            exact ⟨_, rfl, by with_reducible exact gbR _ _, by simp [tAt, isV]⟩
          · intro f w1 hG hd
            have hg4 := gbT (gbD (gbR w5 none)) hG
            simp [deps, tAt, isV] at hd
            first | simp [puts, dsts, Act.put, hd] | simp [puts, dsts, Act.put]
            clear hd
            go_wp2_with fail
            exact ⟨_, rfl, by with_reducible exact gbR _ _, by simp [tAt, isV]⟩
          · intro f w1 hG hd
            have hg4 := gbT (gbD (gbR w5 none)) hG
            simp [deps, tAt, isV] at hd
            first | simp [puts, dsts, Act.put, hd] | simp [puts, dsts, Act.put]
            clear hd
            go_wp2_with fail
            exact ⟨_, rfl, by with_reducible exact gbR _ _, by simp [tAt, isV]⟩
          · intro f w1 hG hd
            have hg4 := gbT (gbD (gbR w5 none)) hG
            have k3 := gbk hg4 (Q0'.out)
            have k4 := gbk hg4 (Q1'.out)
            simp [deps, tAt, isV] at hd
            first | simp [puts, dsts, Act.put, hd] | simp [puts, dsts, Act.put]
            clear hd
            go_wp2_with fail
            exact ⟨_, rfl, by with_reducible exact gbR _ _, by simp [tAt, isV]⟩
          · intro f w1 hG hd
            have hg4 := gbT (gbD (gbR w5 none)) hG
            simp [deps, tAt, isV] at hd
            first | simp [puts, dsts, Act.put, hd] | simp [puts, dsts, Act.put]
            clear hd
            go_wp2_with fail
            refine (implMacCheck_c m.k val x _ _ w1 (KW'.out.grow hg4) (HX'.out.grow hg4) WM.out.k WX.out).mono ?_; rintro e w6 ⟨rfl, hw⟩; rw [hmc]
            go_wp2_with fail
            exact ⟨_, rfl, by first | with_reducible exact gbR _ _ | exact hw, by simp [tAt, isV]⟩
          · intro f w1 hG hd
            have hg4 := gbT (gbD (gbR w5 none)) hG
            simp [deps, tAt, isV] at hd
            first | simp [puts, dsts, Act.put, hd] | simp [puts, dsts, Act.put]
            clear hd
            go_wp2_with fail
            exact ⟨_, rfl, by with_reducible exact gbR _ _, by simp [tAt, isV]⟩
          · intro f w1 hG hd
            have hg4 := gbT (gbD (gbR w5 none)) hG
            simp [deps, tAt, isV] at hd
            first | simp [puts, dsts, Act.put, hd] | simp [puts, dsts, Act.put]
            clear hd
            go_wp2_with fail
            exact ⟨_, rfl, by with_reducible exact gbR _ _, by simp [tAt, isV]⟩
        intro f w8 hG hd
        simp [knows, tAt, isV] at hd
        obtain ⟨h0_, h1_, h2_, h3_, h4_, h5_, h6_, h7_, h8_, h9_, h10_, h11_, h12_, h13_, h14_, h15_, h16_, h17_⟩ := hd
        simp only [puts, dsts, Act.put, h0_, h1_, h2_, h3_, h4_, h5_, h6_, h7_, h8_, h9_, h10_, h11_, h12_, h13_, h14_, h15_, h16_, h17_, List.filterMap_cons, List.filterMap_nil, List.setIfInBounds_toArray, List.set_cons_zero, List.set_cons_succ]
        clear h0_ h1_ h2_ h3_ h4_ h5_ h6_ h7_ h8_ h9_ h10_ h11_ h12_ h13_ h14_ h15_ h16_ h17_
        have g8 := gbT (gbD (gbR w5 none)) hG
        clear hG
        have GA2 := Lib.hid (gbT GA.out g8)
        have OW2 := Lib.hid (own_grow OW1.out g8)
        have HS9 : Hid ((outTo m (k + 1)).map (Value.int .i64) = (outTo m k).map (Value.int .i64) ++ [.int .i64 val]) := by
          unfold Hid
          rw [outTo_succ (by rw [LO.out]; exact hlt) HZ9.out, HXG.out, HVAL.out]
          simp
        clear g8 OW1
        go_wp2_with (at_builtin; refine wp_append1h _ w8.heap.size rfl el_int rfl (.tmp 50) (.tmp 52) rfl _ rfl (by simp [Value.oneCell']) w2.heap.size _ k _ OW2.out rfl rfl (by unfold maxLen; omega) (by omega) GA2.out.size ?_; intro v' w9 o9 g9)
        have h1 : Hid (w9.ownsRow w2.heap.size 3 1 v' (k + 1) ((outTo m (k + 1)).map (Value.int .i64))) := by unfold Hid; rw [HS9.out]; exact o9
        have h2 := Lib.hid (gbN GA2.out g9 (fun g e => (OW2.out.lt g e).1))
        have h3 : Hid (∀ q, q < k + 1 → out1 m (m.c.outs.getD q 0).toNat = true) := Lib.hid (fun q hq => by
          by_cases e : q = k
          · subst e; rw [HZ9.out, Int.toNat_natCast, HO1.out]
          · exact hO.out q (by omega))
        clear o9 g9 OW2 GA2
        go_wp2_with fail
        go_roundw
        case rel => exact ⟨k + 1, by omega, by go_num, h1, h3, h2⟩
        case measure => simp [intOf]; omega
    · have hkn : k = nO := by omega
      subst hkn
      have hyes : outB m = true := by
        rw [HB.out, List.all_eq_true]
        intro zz hzz
        obtain ⟨i, hi, rfl⟩ := List.getElem_of_mem hzz
        have := hO.out i (by rw [← LO.out]; exact hi)
        rw [getI _ _ hi] at this
        exact this
      have hout : outR m = outTo m k := by
        unfold outR outTo
        rw [hyes, if_pos rfl, List.take_of_length_le (by rw [LO.out]; exact Nat.le_refl _)]
      have HYES := Lib.hid hyes
      have HOUT := Lib.hid hout
      have HLK : Hid ((outTo m k).length = k) := Lib.hid (outTo_len (by rw [LO.out]; exact Nat.le_refl _))
      have G9 := Lib.hid (gbT GZ.out hG.out)
      clear hyes hout
      obtain ⟨Av, cv, rfl, _⟩ := own_form hown.out
      go_wp2_with fail
      refine bodyPost_ret (v := .tuple #[.slice Av k cv, .bool true]) (by simp [results, Try.results17]) rfl ?_
      refine ⟨_, by rw [HYES.out], ?_, G9.out⟩
      rw [HOUT.out, HLK.out]
      exact own_base hown.out GZ.out.size
end Go.Proofs.Ythaadgdeadbhkaa
