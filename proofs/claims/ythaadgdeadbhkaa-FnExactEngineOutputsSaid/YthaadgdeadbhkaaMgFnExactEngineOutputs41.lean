/-
  EngineOutputs of the reference.
-/
import Derived.Test.YthaadgdeadbhkaaMgFnExactEngineOutputs37
import Derived.Test.YthaadgdeadbhkaaMgFnExactEngineOutputs40
namespace Go.Proofs.Ythaadgdeadbhkaa
open Go.RowKit
set_option linter.unusedVariables false
set_option linter.unusedSimpArgs false
theorem specOpenAdd_y (p : Int) (A : Option Addr) (n c : Nat) (zs : List Int) (w : World) (h : elemsB p zs = true) (hx : Ints w A n zs) (h1 : 1 ≤ n) (h5 : n ≤ 5) :
    Calls Try.prog 97 #[.int .i64 p, .slice A n c] w fun e w' => e = .returned (.int .i64 (fsum p zs)) ∧ w = w' := by
  have HE := Lib.hid h
  have HX := Lib.hid hx
  have q1 := Lib.hid (inQ_yes (z := (n : Int)) (a := 1) (b := 5) (by omega) (by omega))
  clear h hx
  go_enter Try.func97, Try.ntmps97
  go_wp2_with fail
  refine (specInq_c n 1 5 _).mono ?_
  rintro e w1 ⟨rfl, rfl⟩
  rw [q1.out]
  go_wp2_with fail
  refine (specFSum_y p A n c zs _ HE.out HX.out (by omega)).mono ?_
  rintro e w1 ⟨rfl, rfl⟩
  go_wp2_with fail
  go_ret
  exact ⟨rfl, rfl⟩
theorem specOpenAdd_n (p : Int) (A : Option Addr) (c : Nat) (w : World) :
    Calls Try.prog 97 #[.int .i64 p, .slice A 0 c] w fun e w' => e = .returned (.int .i64 (-1)) ∧ w = w' := by
  have q1 := Lib.hid (show inQ (0 : Int) 1 5 = false by decide)
  go_enter Try.func97, Try.ntmps97
  go_wp2_with fail
  refine (specInq_c 0 1 5 _).mono ?_
  rintro e w1 ⟨rfl, rfl⟩
  rw [q1.out]
  go_wp2_with fail
  go_ret
  exact ⟨rfl, rfl⟩
theorem cauth_ints {w : World} {a : AuM} {B C : Option Addr} {n d m f : Nat} (h : AggR w (cauth a) (.agg #[.slice B n d, .slice C m f])) : Ints w B a.sh.length a.sh := by
  obtain ⟨A9, c9, B9, d9, e9, _, _, _, _, h9, _⟩ := cauth_sl h
  simp at e9
  obtain ⟨⟨rfl, _, _⟩, _⟩ := e9
  exact h9
theorem OutJ.noS {m : EM} {w w' : World} {V : Value} (h : outB m = false) (ho : w'.ownsRow w.heap.size 3 1 V 0 []) (hg : w.grownBy w' none) : OutJ m w (.returned (.tuple #[V, .bool false])) w' := by
  refine ⟨_, by rw [h], ?_, hg⟩
  unfold outR
  rw [h]
  exact ho
set_option maxHeartbeats 4000000 in
set_option maxRecDepth 100000 in
theorem specEngineOutputs_c (m : EM) (v : Value) (w0 : World) (h : AggR w0 (cengine m) v) (wm : ewf m) :
    Calls Try.prog 29 #[v] w0 (OutJ m w0) := by
  obtain ⟨A, B, C, D, E, a, b, c, d, e, rfl, hR⟩ := cengine_open h
  obtain ⟨w1, hw1⟩ : ∃ x : World, w0.alloc (.cells #[.int .i64 m.k.p, .slice A m.k.al.length a, .int .i64 m.c.p, .slice B m.c.st.length b, .slice C m.c.outs.length c, .slice D m.vs.length d, .slice E m.op.length e, .int .i64 m.rd, .bool m.bad] 36) = x := ⟨_, rfl⟩
  have GW : Hid (w0.grownBy w1 none) := by rw [← hw1]; exact gbA (gbR _ _) _
  have D1 : Hid (Blk w1 w0.heap.size 36 #[.int .i64 m.k.p, .slice A m.k.al.length a, .int .i64 m.c.p, .slice B m.c.st.length b, .slice C m.c.outs.length c, .slice D m.vs.length d, .slice E m.op.length e, .int .i64 m.rd, .bool m.bad]) := by rw [← hw1]; exact Blk.new w0 _ _
  have R1 := Lib.hid (hR.grow GW.out)
  have WM := Lib.hid wm
  have HB : Hid (outB m = (engOkB m && !m.bad && m.c.outs.all fun z => out1 m z.toNat)) := rfl
  clear h hR wm
  go_enter Try.func29, Try.ntmps29
  have k0 := D1.out.cell 0
  have k1 := D1.out.cell 1
  have k2 := D1.out.cell 2
  have k3 := D1.out.cell 3
  have k4 := D1.out.cell 4
  have k5 := D1.out.cell 5
  have k6 := D1.out.cell 6
  have k7 := D1.out.cell 7
  have k8 := D1.out.cell 8
  simp at k0 k1 k2 k3 k4 k5 k6 k7 k8
  have k0' := fun o => kA k0 o
  have k1' := fun o => kA k1 o
  have k2' := fun o => kA k2 o
  have k3' := fun o => kA k3 o
  have k4' := fun o => kA k4 o
  have k5' := fun o => kA k5 o
  have k6' := fun o => kA k6 o
  have k7' := fun o => kA k7 o
  have k8' := fun o => kA k8 o
  go_wp2_with fail
  clear k0' k1' k2' k3' k4' k5' k6' k7' k8'
  clear hw1 k0 k1 k2 k3 k4 k5 k6 k7 k8
  obtain ⟨wb, hwb⟩ : ∃ x : World, w1.alloc (.cells #[] 3) = x := ⟨_, rfl⟩
  rw [hwb]
  have OWB : Hid (wb.ownsRow w1.heap.size 3 1 (.slice (some ⟨w1.heap.size, 0, none⟩) 0 0) 0 []) := by rw [← hwb]; exact Lib.hid (World.ownsRow_made w1 #[] 0 (Nat.le_refl _) (by simp) rfl)
  have GB : Hid (w1.grownBy wb none) := by rw [← hwb]; exact gbA (gbR _ _) _
  refine (specEngineOk_c m _ _ (R1.out.grow GB.out).al9 WM.out).mono ?_
  rintro e' w2 ⟨rfl, g2⟩
  have G2 := Lib.hid (gbT GB.out g2)
  have GZ := Lib.hid (gbT GW.out G2.out)
  have OW2 := Lib.hid (own_grow OWB.out g2)
  have e8 := (D1.out.grow G2.out).cell 8
  simp at e8
  clear g2 hwb OWB GB
  cases b1 : engOkB m
  · rw [b1] at HB
    clear e8 b1
    go_wp2_with fail
    refine bodyPost_ret (v := .tuple #[.slice (some ⟨w1.heap.size, 0, none⟩) 0 0, .bool false]) (by simp [results, Try.results29]) rfl ?_
    exact OutJ.noS (by rw [HB.out]; rfl) (own_base OW2.out GW.out.size) GZ.out
  have OKB := Lib.hid (engOk_is b1)
  rw [b1] at HB
  clear b1
  cases b2 : m.bad
  rotate_left
  · rw [b2] at HB
    rw [b2] at e8
    clear b2
    go_wp2_with fail
    refine bodyPost_ret (v := .tuple #[.slice (some ⟨w1.heap.size, 0, none⟩) 0 0, .bool false]) (by simp [results, Try.results29]) rfl ?_
    exact OutJ.noS (by rw [HB.out]; rfl) (own_base OW2.out GW.out.size) GZ.out
  rw [b2] at HB e8
  simp only [Bool.not_false, Bool.and_true, Bool.true_and] at HB
  obtain ⟨nO, hnO⟩ : ∃ n, m.c.outs.length = n := ⟨_, rfl⟩
  obtain ⟨n, hn⟩ : ∃ n, m.vs.length = n := ⟨_, rfl⟩
  have B2 := Lib.hid D1.out
  rw [hnO, hn] at B2
  have LO := Lib.hid hnO
  have LN := Lib.hid hn
  have hO20 : nO ≤ 1048576 := by have := WM.out.c.outs; omega
  have hn60 : n ≤ 60 := by have := OKB.out.2.1.few; have := OKB.out.2.2.2.1; omega
  have e4 := (B2.out.grow G2.out).cell 4
  simp at e4
  have e4' := fun o => kA e4 o
  have P0 := Lib.hid (R1.out.va)
  rw [LN.out] at P0
  have O0 := Lib.hid (R1.out.ou)
  rw [LO.out] at O0
  have K2 := Lib.hid (R1.out.ky)
  clear D1 hnO hn R1
  have hbd := Lib.hid b2
  clear b2
  go_wp2_with fail
  go_loopw [4, 5] (fun v i wr => ∃ k : Nat, k ≤ nO ∧ i = .int .i64 k ∧ Hid (wr.ownsRow w1.heap.size 3 1 v k ((outTo m k).map (Value.int .i64))) ∧ Hid (∀ q, q < k → out1 m (m.c.outs.getD q 0).toNat = true) ∧ Hid (w1.grownBy wr none)) (fun _ i _ => nO - (intOf i).toNat)
  case atStart => exact ⟨0, Nat.zero_le _, rfl, by unfold outTo; exact OW2, Lib.hid (fun q hq => by omega), G2⟩
  clear e4 e4'
  case round =>
    obtain ⟨k, hk, rfl, hown, hO, hG⟩ := hrel
    have e4r := (B2.out.grow hG.out).cell 4
    simp only [List.getElem?_toArray, List.getElem?_cons_succ, List.getElem?_cons_zero] at e4r
    by_cases hlt : k < nO
    · have i1 : (k : Int) < (nO : Int) := by omega
      obtain ⟨z, hz, hzn⟩ := outs_at OKB.out.2.1 (j := k) (by rw [LO.out]; exact hlt)
      have hzn : z < n := by have := OKB.out.2.2.2.1; have := LN.out; omega
      have i2 : (z : Int) < (n : Int) := by omega
      obtain ⟨ob, oo, rfl, hob, hoc⟩ := (O0.out.grow hG.out).at_ (by omega)
      have oc := hoc k hlt
      rw [hz] at oc
      have OC := Lib.hid oc
      obtain ⟨b, o, x, Bx, dx, Cx, fx, rfl, hb, hx, q0, q1, hX⟩ := cauths_at (CS.grow _ P0.out hG.out) hzn
      have hxg : getA m.vs z = x := by unfold getA; rw [List.getD_eq_getElem?_getD, hx]; rfl
      have WX := Lib.hid (WM.out.vs x (List.mem_of_getElem? hx))
      have HXG := Lib.hid hxg
      have HX := Lib.hid hX
      have HZ9 := Lib.hid hz
      have OKX := OKB.out.2.2.2.2.2 z
      rw [hxg] at OKX
      have EX := Lib.hid (okV_el OKB.out.1 OKX)
      have OKX := Lib.hid OKX
      have Q0 := Lib.hid q0
      have Q1 := Lib.hid q1
      have C0 := Lib.hid ((B2.out.grow hG.out).cell 0)
      have C1 := Lib.hid ((B2.out.grow hG.out).cell 1)
      have C5 := Lib.hid ((B2.out.grow hG.out).cell 5)
      simp only [List.getElem?_toArray, List.getElem?_cons_succ, List.getElem?_cons_zero] at C0 C1 C5
      have KW := Lib.hid (K2.out.grow hG.out)
      have HO1 : Hid (out1 m z = (!zeroA x && macCheck m.k (fsum m.k.p x.sh) x)) := by unfold Hid out1; rw [hxg]
      clear hoc hx hX hxg hz q0 q1
      go_wp2_with fail
      clear oc e4r
      have C2 := Lib.hid ((B2.out.grow hG.out).cell 4)
      simp only [List.getElem?_toArray, List.getElem?_cons_succ, List.getElem?_cons_zero] at C2
      refine region_chain [.rd (.pointer (some ⟨w0.heap.size, 5, none⟩)), .rd (.slice (some ⟨b, o, none⟩) n d), .rd (.pointer (some ⟨w0.heap.size, 2, none⟩)), .rd (.pointer (some ⟨w0.heap.size, 4, none⟩)), .rd (.slice (some ⟨ob, oo, none⟩) nO c), .rd (.int .i64 k), .rd (.pointer (some ⟨ob, oo + k, none⟩)), .rd (.int .i64 z), .rd (.pointer (some ⟨b, o + z * 2, none⟩)), .rd (.agg #[.slice Bx x.sh.length dx, .slice Cx x.mc.length fx]), .ch, .ch] (fun _ => False)
        [⟨[], fun _ w' => wr.drew.grownBy w' none⟩,
         ⟨[6], fun l w' => (∃ g, l.getD 0 undef = .pointer (some ⟨g, 0, none⟩) ∧ wr.heap.size ≤ g ∧ Blk w' g 44 #[.slice none 0 0, .slice none 0 0]) ∧ wr.grownBy w' none⟩,
         ⟨[6], fun l w' => (∃ g, l.getD 0 undef = .pointer (some ⟨g, 0, none⟩) ∧ wr.heap.size ≤ g ∧ Blk w' g 44 #[.slice Bx x.sh.length dx, .slice Cx x.mc.length fx]) ∧ wr.grownBy w' none⟩]
        (by kernel_rfl) (by kernel_rfl) (by kernel_rfl) 2 (by kernel_rfl) (by simp only [flOk, and_true]) (gbR _ _) rfl ?_ ?_
      · simp only [hopsK, hopK, Kd.next, and_true]
        refine ⟨?_, ?_, ?_, ?_, ?_, ?_, ?_, ?_, ?_, ?_, ?_, ?_⟩
        · intro f w4 hG hd
          have hg4 := gbT (gbD (gbR wr none)) (chgF hG)
          (try simp [depsC, dstAt, kAt, bindE, List.filter_cons, bd_data, bd_chain, bd_guard, bd_phase, bd_text, bd_gc] at hd)
          (first | simp [puts, dsts, Act.put, hd] | simp [puts, dsts, Act.put])
          clear hd
          go_wp2_with fail
          exact ⟨rfl, rfl⟩
        · intro f w4 hG hd
          have hg4 := gbT (gbD (gbR wr none)) (chgF hG)
          have k3 := gbk hg4 (C5.out)
          (try simp [depsC, dstAt, kAt, bindE, List.filter_cons, bd_data, bd_chain, bd_guard, bd_phase, bd_text, bd_gc] at hd)
          (first | simp [puts, dsts, Act.put, hd] | simp [puts, dsts, Act.put])
          clear hd
          go_wp2_with fail
          exact ⟨rfl, rfl⟩
        · intro f w4 hG hd
          have hg4 := gbT (gbD (gbR wr none)) (chgF hG)
          (try simp [depsC, dstAt, kAt, bindE, List.filter_cons, bd_data, bd_chain, bd_guard, bd_phase, bd_text, bd_gc] at hd)
          (first | simp [puts, dsts, Act.put, hd] | simp [puts, dsts, Act.put])
          clear hd
          go_wp2_with fail
          exact ⟨rfl, rfl⟩
        · intro f w4 hG hd
          have hg4 := gbT (gbD (gbR wr none)) (chgF hG)
          (try simp [depsC, dstAt, kAt, bindE, List.filter_cons, bd_data, bd_chain, bd_guard, bd_phase, bd_text, bd_gc] at hd)
          (first | simp [puts, dsts, Act.put, hd] | simp [puts, dsts, Act.put])
          clear hd
          go_wp2_with fail
          exact ⟨rfl, rfl⟩
        · intro f w4 hG hd
          have hg4 := gbT (gbD (gbR wr none)) (chgF hG)
          have k2 := gbk hg4 (C2.out)
          (try simp [depsC, dstAt, kAt, bindE, List.filter_cons, bd_data, bd_chain, bd_guard, bd_phase, bd_text, bd_gc] at hd)
          (first | simp [puts, dsts, Act.put, hd] | simp [puts, dsts, Act.put])
          clear hd
          go_wp2_with fail
          exact ⟨rfl, rfl⟩
        · intro f w4 hG hd
          have hg4 := gbT (gbD (gbR wr none)) (chgF hG)
          (try simp [depsC, dstAt, kAt, bindE, List.filter_cons, bd_data, bd_chain, bd_guard, bd_phase, bd_text, bd_gc] at hd)
          (first | simp [puts, dsts, Act.put, hd] | simp [puts, dsts, Act.put])
          clear hd
          go_wp2_with fail
          exact ⟨rfl, rfl⟩
        · intro f w4 hG hd
          have hg4 := gbT (gbD (gbR wr none)) (chgF hG)
          (try simp [depsC, dstAt, kAt, bindE, List.filter_cons, bd_data, bd_chain, bd_guard, bd_phase, bd_text, bd_gc] at hd)
          (first | simp [puts, dsts, Act.put, hd] | simp [puts, dsts, Act.put])
          clear hd
          go_wp2_with fail
          exact ⟨rfl, rfl⟩
        · intro f w4 hG hd
          have hg4 := gbT (gbD (gbR wr none)) (chgF hG)
          have k6 := gbk hg4 (OC.out)
          (try simp [depsC, dstAt, kAt, bindE, List.filter_cons, bd_data, bd_chain, bd_guard, bd_phase, bd_text, bd_gc] at hd)
          (first | simp [puts, dsts, Act.put, hd] | simp [puts, dsts, Act.put])
          clear hd
          go_wp2_with fail
          exact ⟨rfl, rfl⟩
        · intro f w4 hG hd
          have hg4 := gbT (gbD (gbR wr none)) (chgF hG)
          (try simp [depsC, dstAt, kAt, bindE, List.filter_cons, bd_data, bd_chain, bd_guard, bd_phase, bd_text, bd_gc] at hd)
          (first | simp [puts, dsts, Act.put, hd] | simp [puts, dsts, Act.put])
          clear hd
          go_wp2_with fail
          exact ⟨rfl, rfl⟩
        · intro f w4 hG hd
          have hg4 := gbT (gbD (gbR wr none)) (chgF hG)
          have k4 := gbk hg4 (Q0.out)
          have k5 := gbk hg4 (Q1.out)
          (try simp [depsC, dstAt, kAt, bindE, List.filter_cons, bd_data, bd_chain, bd_guard, bd_phase, bd_text, bd_gc] at hd)
          (first | simp [puts, dsts, Act.put, hd] | simp [puts, dsts, Act.put])
          clear hd
          go_wp2_with fail
          exact ⟨rfl, rfl⟩
        · intro f w4 hG hI hd
          have hg4 := gbT (gbD (gbR wr none)) (chgF hG)
          have hz4 := hg4.size
          clear hd
          simp [puts, dsts, Act.put]
          go_wp2_with fail
          exact ⟨_, rfl, ⟨⟨_, rfl, hz4, Blk.new _ _ _⟩, gbA hg4 _⟩, ⟨Chg.of (gbA (gbR _ none) _) (by simp), by simp [keepsC, dstAt]⟩⟩
        · intro f w4 hG hI hd
          have hg4 := gbT (gbD (gbR wr none)) (chgF hG)
          have hz4 := hg4.size
          obtain ⟨⟨g6, e6, hg6, R4⟩, hI⟩ := hI
          have e6 : f 6 = .pointer (some ⟨g6, 0, none⟩) := e6
          (try simp [depsC, dstAt, kAt, bindE, List.filter_cons, bd_data, bd_chain, bd_guard, bd_phase, bd_text, bd_gc] at hd)
          have f0 := R4.frozen 0
          have f1 := R4.frozen 1
          have b0 := R4.cell 0
          have b1 := R4.cell 1
          simp at b0 b1
          have RS := Lib.hid (blk_setCells2 R4 (.slice Bx x.sh.length dx) (.slice Cx x.mc.length fx))
          have GS := Lib.hid (gb_chg hg4 (chg_setCells g6 [.slice Bx x.sh.length dx, .slice Cx x.mc.length fx] 0 w4) hg6)
          clear R4 hI
          simp [puts, dsts, Act.put, e6, hd]
          clear hd
          go_wp2_with fail
          exact ⟨rfl, .bool false, ⟨g6, e6, hg6, RS.out⟩, GS.out⟩
      intro f w5 hI hd
      simp only [puts, dsts, Act.put, List.filterMap_cons, List.filterMap_nil, List.setIfInBounds_toArray, List.set_cons_zero, List.set_cons_succ]
      obtain ⟨⟨g6, e6, hg6, B6⟩, g5⟩ := hI
      have e6 : f 6 = .pointer (some ⟨g6, 0, none⟩) := e6
      rw [e6]
      have C0' := Lib.hid (gbk g5 C0.out)
      have C1' := Lib.hid (gbk g5 C1.out)
      have KW' := Lib.hid (KW.out.grow g5)
      have HX' := Lib.hid (HX.out.grow g5)
      have A0' := Lib.hid (B6.cell 0)
      have A1' := Lib.hid (B6.cell 1)
      simp at A0' A1'
      have GA := Lib.hid (gbT hG.out g5)
      have OW1 := Lib.hid (own_grow hown.out g5)
      clear g5 e6 hd B6 C0 C1 C2 C5 KW HX hown OC
      cases hz : zeroA x
      rotate_left
      · rw [hz] at HO1
        have hno : outB m = false := by
          rw [HB.out, List.all_eq_false]
          exact ⟨m.c.outs.getD k 0, getD_mem (by rw [LO.out]; exact hlt), by rw [HZ9.out, Int.toNat_natCast, HO1.out]; simp⟩
        have HNO := Lib.hid hno
        have hz0 : x.sh.length = 0 := by unfold zeroA at hz; simp at hz; rw [hz.1]; rfl
        have HZ0 := Lib.hid hz0
        clear hno hz hz0
        have c0p := C0'.out
        have a0p := A0'.out
        go_wp2_with fail
        clear c0p a0p
        rw [HZ0.out]
        refine (specOpenAdd_n m.k.p Bx dx w5).mono ?_
        rintro e w6 ⟨rfl, rfl⟩
        have A0'' := Lib.hid A0'.out
        have G6 := GA
        rw [HZ0.out] at A0''
        have a0p := A0''.out
        have G9 := Lib.hid (gbT GW.out G6.out)
        go_wp2_with fail
        refine bodyPost_ret (v := .tuple #[.slice (some ⟨w5.heap.size, 0, none⟩) 0 0, .bool false]) (by simp [results, Try.results29]) rfl ?_
        exact OutJ.noS HNO.out (World.ownsRow_made w5 #[] 0 G9.out.size (by simp) rfl) (gbA G9.out _)
      obtain ⟨val, hval⟩ : ∃ q, fsum m.k.p x.sh = q := ⟨_, rfl⟩
      rw [hz, Bool.not_false, Bool.true_and, hval] at HO1
      have HVAL := Lib.hid hval
      have hl5 : 1 ≤ x.sh.length ∧ x.sh.length ≤ 5 := by
        have := OKX.out
        unfold okV at this
        rw [hz, Bool.false_or] at this
        have := form_is this
        omega
      have hl1 := hl5.1
      have hl5 := hl5.2
      clear hz hval
      have IS := Lib.hid (cauth_ints HX'.out)
      have c0p := C0'.out
      have a0p := A0'.out
      go_wp2_with fail
      clear c0p a0p
      refine (specOpenAdd_y m.k.p Bx x.sh.length dx x.sh w5 EX.out IS.out hl1 hl5).mono ?_
      rintro e w6 ⟨rfl, rfl⟩
      rw [HVAL.out]
      have c0p := C0'.out
      have c1p := C1'.out
      have a0p := A0'.out
      have a1p := A1'.out
      have zl : ((x.sh.length : Int) == 0) = false := by simp; intro h; rw [h] at hl1; simp at hl1
      go_wp2_with fail
      clear c0p c1p a0p a1p zl
      refine (specMacCheck_c m.k val x _ _ w5 KW'.out HX'.out WM.out.k WX.out).mono ?_
      rintro e w8 ⟨rfl, g8⟩
      cases hmc : macCheck m.k val x
      · rw [hmc] at HO1
        have hno : outB m = false := by
          rw [HB.out, List.all_eq_false]
          exact ⟨m.c.outs.getD k 0, getD_mem (by rw [LO.out]; exact hlt), by rw [HZ9.out, Int.toNat_natCast, HO1.out]; simp⟩
        have HNO := Lib.hid hno
        clear hno
        have G9 := Lib.hid (gbT GW.out (gbT GA.out g8))
        clear g8
        go_wp2_with fail
        refine bodyPost_ret (v := .tuple #[.slice (some ⟨w8.heap.size, 0, none⟩) 0 0, .bool false]) (by simp [results, Try.results29]) rfl ?_
        exact OutJ.noS HNO.out (World.ownsRow_made w8 #[] 0 G9.out.size (by simp) rfl) (gbA G9.out _)
      · rw [hmc] at HO1
        have GA2 := Lib.hid (gbT GA.out g8)
        have OW2 := Lib.hid (own_grow OW1.out g8)
        have HS9 : Hid ((outTo m (k + 1)).map (Value.int .i64) = (outTo m k).map (Value.int .i64) ++ [.int .i64 val]) := by
          unfold Hid
          rw [outTo_succ (by rw [LO.out]; exact hlt) HZ9.out, HXG.out, HVAL.out]
          simp
        clear g8 OW1
        go_wp2_with (at_builtin; refine wp_append1h _ w8.heap.size rfl el_int rfl (.tmp 54) (.tmp 56) rfl _ rfl (by simp [Value.oneCell']) w1.heap.size _ k _ OW2.out rfl rfl (by unfold maxLen; omega) (by omega) GA2.out.size ?_; intro v' w9 o9 g9)
        have h1 : Hid (w9.ownsRow w1.heap.size 3 1 v' (k + 1) ((outTo m (k + 1)).map (Value.int .i64))) := by unfold Hid; rw [HS9.out]; exact o9
        have h2 := Lib.hid (gbN GA2.out g9 (fun g e => (OW2.out.lt g e).1))
        have h3 : Hid (∀ q, q < k + 1 → out1 m (m.c.outs.getD q 0).toNat = true) := Lib.hid (fun q hq => by
          by_cases e : q = k
          · subst e; rw [HZ9.out, Int.toNat_natCast, HO1.out]
          · exact hO.out q (by omega))
        clear o9 g9 OW2 GA2
        go_wp2_with fail
        go_roundw
        case rel => exact ⟨k + 1, by omega, by go_num, h1, h3, h2⟩
        case measure => simp [intOf]; omega
    · have hkn : k = nO := by omega
      subst hkn
      have hyes : outB m = true := by
        rw [HB.out, List.all_eq_true]
        intro zz hzz
        obtain ⟨i, hi, rfl⟩ := List.getElem_of_mem hzz
        have := hO.out i (by rw [← LO.out]; exact hi)
        rw [getI _ _ hi] at this
        exact this
      have hout : outR m = outTo m k := by
        unfold outR outTo
        rw [hyes, if_pos rfl, List.take_of_length_le (by rw [LO.out]; exact Nat.le_refl _)]
      have HYES := Lib.hid hyes
      have HOUT := Lib.hid hout
      have HLK : Hid ((outTo m k).length = k) := Lib.hid (outTo_len (by rw [LO.out]; exact Nat.le_refl _))
      have G9 := Lib.hid (gbT GW.out hG.out)
      clear hyes hout
      obtain ⟨Av, cv, rfl, _⟩ := own_form hown.out
      go_wp2_with fail
      refine bodyPost_ret (v := .tuple #[.slice Av k cv, .bool true]) (by simp [results, Try.results29]) rfl ?_
      refine ⟨_, by rw [HYES.out], ?_, G9.out⟩
      rw [HOUT.out, HLK.out]
      exact own_base hown.out GW.out.size
end Go.Proofs.Ythaadgdeadbhkaa
