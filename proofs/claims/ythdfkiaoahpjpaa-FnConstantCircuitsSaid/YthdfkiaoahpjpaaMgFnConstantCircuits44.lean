/-
  The reference's circuits for words: what they ask; constants, sums, products.
-/
import Derived.Test.YthdfkiaoahpjpaaMgFnConstantCircuits38
namespace Go.Proofs.Ythdfkiaoahpjpaa
open Go.RowKit
set_option linter.unusedVariables false
set_option linter.unusedSimpArgs false
set_option maxHeartbeats 2000000 in
set_option maxRecDepth 100000 in
theorem specl14Word_yes (m : CM) (v : Value) (A : Option Addr) (c : Nat) (x : List Int) (w : World) (h : AggR w (ccircuit m) v) (hx : Ints w A 4 x) (hw : wordB m x) (few : m.gt.length ≤ 6000) :
    Calls Try.prog 94 #[v, .slice A 4 c] w fun e w' => e = .returned (.bool true) ∧ w.grownBy w' none := by
  obtain ⟨u0, u1, rfl, h1, h2⟩ := ccircuit_open h
  obtain ⟨Ag, cg, rfl, _, _, _⟩ := plst_rd (s := 3) (fun _ => rfl) (by omega) h1
  obtain ⟨q, hq⟩ : ∃ q, m.gt.length = q := ⟨_, rfl⟩
  rw [hq] at few ⊢
  have HW : Hid (∀ z ∈ x, inB z 0 ((q : Int) - 1) = true) := by rw [← hq]; exact Lib.hid hw.2
  have HL4 := Lib.hid hw.1
  obtain ⟨w1, hw1⟩ : ∃ y : World, w.alloc (.cells #[.slice Ag q cg, u1] 28) = y := ⟨_, rfl⟩
  have B1 : Hid (Blk w1 w.heap.size 28 #[.slice Ag q cg, u1]) := by rw [← hw1]; exact Lib.hid (Blk.new w _ _)
  have G1 : Hid (w.grownBy w1 none) := by rw [← hw1]; exact Lib.hid (gbA (gbR _ _) _)
  have HX := Lib.hid (hx.grow G1.out)
  obtain ⟨bx, ox, rfl, -, -⟩ := hx.at_ (by omega)
  clear h h1 h2 hq hw hx
  go_enter Try.func94, Try.ntmps94
  go_wp2_with fail
  try rw [hw1]
  clear hw1
  go_loopw [5] (fun i wr => ∃ k : Nat, k ≤ 4 ∧ i = .int .i64 k ∧ Hid (w1.grownBy wr none)) (fun i _ => 4 - (intOf i).toNat)
  case atStart => exact ⟨0, Nat.zero_le _, rfl, gbR _ _⟩
  case round =>
    obtain ⟨k, hk, rfl, HG⟩ := hrel
    by_cases hlt : k < 4
    · have i1 : (k : Int) < 4 := by omega
      have hz := HW.out (x.getD k 0) (by rw [getI _ _ (by rw [HL4.out]; exact hlt)]; exact List.getElem_mem _)
      have c0 := Lib.hid ((B1.out.grow HG.out).cell 0)
      have q5 := (HX.out.grow HG.out).val hlt
      obtain ⟨z, hzz⟩ : ∃ z, x.getD k 0 = z := ⟨_, rfl⟩
      rw [hzz] at hz q5
      have HZ := Lib.hid hz
      have Q5 := Lib.hid q5
      clear hz hzz q5
      go_wp2_with fail
      refine region_grow [isV (.slice (some ⟨bx, ox, none⟩) 4 c), isV (.int .i64 k), isV (.pointer (some ⟨bx, ox + k, none⟩)), isV (.int .i64 z), isV (.pointer (some ⟨w.heap.size, 0, none⟩)), isV (.slice Ag q cg), isV (.int .i64 q), isV (.int .i64 ((q : Int) - 1)), isV (.bool true), isV (.bool false)] (by kernel_rfl) (by kernel_rfl) (by kernel_rfl) (by simp [stables, isV_st]) ?_ ?_
      · simp only [hops, and_true]
        refine ⟨?_, ?_, ?_, ?_, ?_, ?_, ?_, ?_, ?_, ?_⟩
        all_goals
          intro f w1 hG hd
          have k0 := gbk (gbT (gbD (gbR _ _)) hG) (c0.out)
          have k1 := gbk (gbT (gbD (gbR _ _)) hG) (Q5.out)
          simp [deps, tAt, isV] at hd
          first | simp [puts, dsts, Act.put, hd] | simp [puts, dsts, Act.put]
          clear hd
          go_wp2_with ((go_at_call 62; refine (spec.l01In_q z 0 ((q : Int) - 1) _).mono ?_; rintro e w2 ⟨rfl, rfl⟩; rw [HZ.out]))
        all_goals exact ⟨_, rfl, by first | with_reducible exact gbR _ _ | exact hw, by first | (simp [tAt, isV]; done) | (simp [tAt, isV]; assumption)⟩
      intro f w5 hG hd
      simp [knows, tAt, isV] at hd
      obtain ⟨h0_, h1_, h2_, h3_, h4_, h5_, h6_, h7_, h8_, h9_⟩ := hd
      simp only [puts, dsts, Act.put, h0_, h1_, h2_, h3_, h4_, h5_, h6_, h7_, h8_, h9_, List.filterMap_cons, List.filterMap_nil, List.setIfInBounds_toArray, List.set_cons_zero, List.set_cons_succ]
      clear h0_ h1_ h2_ h3_ h4_ h5_ h6_ h7_ h8_ h9_
      have g5 := gbT (gbD (gbR _ none)) hG
      clear hG
      have G5 := Lib.hid (gbT HG.out g5)
      clear g5 HG
      go_wp2_with fail
      go_roundw
      case rel => exact ⟨k + 1, by omega, by go_num, G5⟩
      case measure => simp [intOf]; omega
    · have hk4 : k = 4 := by omega
      subst hk4
      go_wp2_with fail
      refine bodyPost_ret (v := .bool true) (by simp [results, Try.results94]) rfl ?_
      exact ⟨rfl, gbT G1.out HG.out⟩
set_option maxHeartbeats 2000000 in
set_option maxRecDepth 100000 in
theorem specl14Ask_yes (m : CM) (v : Value) (A B : Option Addr) (c d : Nat) (x y : List Int) (w : World) (h : AggR w (ccircuit m) v) (hx : Ints w A 4 x) (hy : Ints w B 4 y) (ask : WAsk m) (wx : wordB m x) (wy : wordB m y) :
    Calls Try.prog 64 #[v, .slice A 4 c, .slice B 4 d] w fun e w' => e = .returned (.bool true) ∧ w.grownBy w' none := by
  have HV := Lib.hid h
  obtain ⟨u0, u1, rfl, h1, h2⟩ := ccircuit_open h
  obtain ⟨Ag, cg, rfl, _, _, _⟩ := plst_rd (s := 3) (fun _ => rfl) (by omega) h1
  have hfew := ask.few
  obtain ⟨q, hq⟩ : ∃ q, m.gt.length = q := ⟨_, rfl⟩
  rw [hq] at hfew HV ⊢
  have HQ := Lib.hid hq
  have HX := Lib.hid hx
  have HY := Lib.hid hy
  have ASK := Lib.hid ask
  have WX := Lib.hid wx
  have WY := Lib.hid wy
  obtain ⟨w1, hw1⟩ : ∃ y : World, w.alloc (.cells #[.slice Ag q cg, u1] 28) = y := ⟨_, rfl⟩
  have B1 : Hid (Blk w1 w.heap.size 28 #[.slice Ag q cg, u1]) := by rw [← hw1]; exact Lib.hid (Blk.new w _ _)
  have G1 : Hid (w.grownBy w1 none) := by rw [← hw1]; exact Lib.hid (gbA (gbR _ _) _)
  clear h h1 h2 hq hx hy ask wx wy
  go_enter Try.func64, Try.ntmps64
  have k0 := B1.out.cell 0
  have k1 := B1.out.cell 1
  simp at k0 k1
  go_wp2_with fail
  clear hw1 k0 k1
  refine (specCircuitOk_c m _ w1 (HV.out.grow G1.out)).mono ?_
  rintro e w2 ⟨rfl, g2⟩
  rw [circB_yes ASK.out.ok]
  have G2 := Lib.hid (gbT G1.out g2)
  have B2 := Lib.hid (B1.out.grow g2)
  have k0 := B2.out.cell 0
  have k1 := B2.out.cell 1
  simp at k0 k1
  have t5 : decide ((q : Int) ≤ 5900) = true := by simp; omega
  clear g2 G1 B1
  go_wp2_with fail
  clear k0 k1
  refine (specl14Word_yes m _ A c x w2 (HV.out.grow G2.out) (HX.out.grow G2.out) WX.out (by have := HQ.out; omega)).mono ?_
  rintro e w3 ⟨rfl, g3⟩
  have G3 := Lib.hid (gbT G2.out g3)
  have B3 := Lib.hid (B2.out.grow g3)
  have k0 := B3.out.cell 0
  have k1 := B3.out.cell 1
  simp at k0 k1
  clear g3 G2 B2
  go_wp2_with fail
  clear k0 k1
  refine (specl14Word_yes m _ B d y w3 (HV.out.grow G3.out) (HY.out.grow G3.out) WY.out (by have := HQ.out; omega)).mono ?_
  rintro e w4 ⟨rfl, g4⟩
  have G4 := Lib.hid (gbT G3.out g4)
  clear g4 G3 B3
  go_wp2_with fail
  refine bodyPost_ret (v := .bool true) (by simp [results, Try.results64]) rfl ?_
  exact ⟨rfl, G4.out⟩
end Go.Proofs.Ythdfkiaoahpjpaa
