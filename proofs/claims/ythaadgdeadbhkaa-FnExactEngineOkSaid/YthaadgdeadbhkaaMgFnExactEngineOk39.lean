/-
  The laws' helpers on Engine, by what it reads as (printed by wip/gen_engk.py).
-/
import Derived.Test.YthaadgdeadbhkaaMgFnExactEngineOk38
namespace Go.Proofs.Ythaadgdeadbhkaa
open Go.RowKit
set_option linter.unusedVariables false
set_option linter.unusedSimpArgs false
def EM.sz (m : EM) : Nat := m.k.sz + m.c.sz + szA m.vs + m.op.length
def EM.cnt (k : Int) (m : EM) : Int := m.c.cnt (m.k.cnt k) + (auS m.vs m.vs.length : Nat) + m.op.length
theorem ownL.chg {lo : Nat} {cs : List CS} {vs : List Value} {w w' : World} {S : Nat → Prop} (h : ownL lo cs vs w) (k : Chg S w w') (hS : ∀ y, S y → y < lo) : ownL lo cs vs w' := by
  obtain ⟨Fs, h1, h2⟩ := h
  exact ⟨Fs, h1.kept fun g hg => k.block g (h1.lt g hg) (fun hs => by have := h2 g hg; have := hS g hs; omega), h2⟩
theorem ownL.of {lo : Nat} {cs : List CS} {F : List Nat} {vs : List Value} {w : World} (h : AggO w cs F (.agg vs.toArray)) (k : ∀ g ∈ F, lo ≤ g) : ownL lo cs vs w := aggF.all ⟨F, h, k⟩
theorem ownL.one {lo : Nat} {c : CS} {F : List Nat} {v : Value} {w : World} (h : c.own w F v) (k : ∀ g ∈ F, lo ≤ g) : ownL lo [c] [v] w := ownF.one ⟨F, h, k⟩
set_option maxHeartbeats 4000000 in
set_option maxRecDepth 100000 in
theorem toEngine_k (m : EM) (v : Value) (w : World) (h : AggR w (cengine m) v) (hn : m.sz ≤ 1048576) :
    Calls Try.prog 26 #[v] w fun e w' => ∃ u F, e = .returned u ∧ AggO w' (cengine m) F u ∧ (∀ g ∈ F, w.heap.size ≤ g) ∧ w.grownBy w' none := by
  obtain ⟨A, B, C, D, E, a, b, c, d, e, rfl, hR⟩ := cengine_open h
  have HN := Lib.hid hn
  obtain ⟨x0, hx0⟩ : ∃ x : World, ((w.alloc (.cells #[.int .i64 m.k.p, .slice A m.k.al.length a, .int .i64 m.c.p, .slice B m.c.st.length b, .slice C m.c.outs.length c, .slice D m.vs.length d, .slice E m.op.length e, .int .i64 m.rd, .bool m.bad] 64)).alloc (.cells #[.int .i64 0, .slice none 0 0, .int .i64 0, .slice none 0 0, .slice none 0 0, .slice none 0 0, .slice none 0 0, .int .i64 0, .bool false] 36)).alloc (.cells #[.int .i64 0, .slice none 0 0, .int .i64 0, .slice none 0 0, .slice none 0 0, .slice none 0 0, .slice none 0 0, .int .i64 0, .bool false] 36) = x := ⟨_, rfl⟩
  have GG : Hid (w.grownBy x0 none) := by rw [← hx0]; exact gbA (gbA (gbA (gbR _ _) _) _) _
  have S0 : Hid (Blk x0 w.heap.size 64 #[.int .i64 m.k.p, .slice A m.k.al.length a, .int .i64 m.c.p, .slice B m.c.st.length b, .slice C m.c.outs.length c, .slice D m.vs.length d, .slice E m.op.length e, .int .i64 m.rd, .bool m.bad]) := by rw [← hx0]; exact ((Blk.new w _ _).grow (gbA (gbR _ _) _)).grow (gbA (gbR _ _) _)
  have R0 : Hid (Blk x0 (w.heap.size + 1) 36 #[.int .i64 0, .slice none 0 0, .int .i64 0, .slice none 0 0, .slice none 0 0, .slice none 0 0, .slice none 0 0, .int .i64 0, .bool false]) := by rw [← hx0]; exact (Blk.new' _ _ _ _ (by simp)).grow (gbA (gbR _ _) _)
  have D0 : Hid (Blk x0 (w.heap.size + 1 + 1) 36 #[.int .i64 0, .slice none 0 0, .int .i64 0, .slice none 0 0, .slice none 0 0, .slice none 0 0, .slice none 0 0, .int .i64 0, .bool false]) := by rw [← hx0]; exact Blk.new' _ _ _ _ (by simp)
  have z0 : x0.heap.size = w.heap.size + 3 := by rw [← hx0]; simp
  have z0 : w.heap.size + 3 ≤ x0.heap.size := by omega
  have P0 := Lib.hid hR
  have RR := Lib.hid (hR.grow GG.out)
  have LL := Lib.hid (ownL.nil (w.heap.size + 3) x0)
  clear h hn hR
  go_enter Try.func26, Try.ntmps26
  have s0 := S0.out.cell 0
  have s1 := S0.out.cell 1
  simp only [List.getElem?_toArray, List.getElem?_cons_succ, List.getElem?_cons_zero] at s0 s1
  go_wp2_with fail
  clear hx0 s0 s1
  refine (toKeys_k m.k _ _ RR.out.ky (by have := HN.out; unfold EM.sz at this; omega)).mono ?_
  rintro e' y0 ⟨u, F0, rfl, oo, ll, gg⟩
  obtain ⟨K1, n1, q1, rfl⟩ := ckeys_oform oo
  have SN := S0.out.grow gg
  have RN := R0.out.grow gg
  have DN := D0.out.grow gg
  have zN := gg.size
  have LN := LL.out.app gg (ownL.of (vs := [_, _]) oo ll) (by omega)
  have GN := gbT GG.out gg
  have f0 := DN.frozen 0
  have d0 := DN.cell 0
  have f1 := DN.frozen 1
  have d1 := DN.cell 1
  simp only [List.getElem?_toArray, List.getElem?_cons_succ, List.getElem?_cons_zero] at d0 d1
  obtain ⟨x1, hx1⟩ : ∃ x : World, ((y0).setCell ⟨w.heap.size + 1 + 1, 0, none⟩ (.int .i64 m.k.p)).setCell ⟨w.heap.size + 1 + 1, 1, none⟩ (.slice K1 n1 q1) = x := ⟨_, rfl⟩
  have CH1 : Chg (fun y => y = w.heap.size + 1 + 1) y0 x1 := by rw [← hx1]; exact (chgS (y0) (w.heap.size + 1 + 1) 0 (.int .i64 m.k.p)).trans (chgS ((y0).setCell ⟨w.heap.size + 1 + 1, 0, none⟩ (.int .i64 m.k.p)) (w.heap.size + 1 + 1) 1 (.slice K1 n1 q1))
  have D1 : Hid (Blk x1 (w.heap.size + 1 + 1) 36 #[.int .i64 m.k.p, .slice K1 n1 q1, .int .i64 0, .slice none 0 0, .slice none 0 0, .slice none 0 0, .slice none 0 0, .int .i64 0, .bool false]) := by rw [← hx1]; exact Lib.hid (((DN).set_ 0 (.int .i64 m.k.p)).set_ 1 (.slice K1 n1 q1))
  have S1 := Lib.hid (SN.chg CH1 (by omega))
  have R1 := Lib.hid (RN.chg CH1 (by omega))
  have L1 := Lib.hid (LN.chg CH1 (fun y hy => by omega))
  have G1 := Lib.hid (gbChg GN CH1 (fun y hy => by omega))
  have z1 : w.heap.size + 3 ≤ x1.heap.size := by have := CH1.size; omega
  clear S0 R0 D0 LL GG RR oo ll gg zN z0
  have S0 := S1
  have R0 := R1
  have D0 := D1
  have LL := L1
  have GG := G1
  have z0 := z1
  have RR := Lib.hid (P0.out.grow GG.out)
  have s2 := S0.out.cell 2
  have s3 := S0.out.cell 3
  have s4 := S0.out.cell 4
  simp only [List.getElem?_toArray, List.getElem?_cons_succ, List.getElem?_cons_zero] at s2 s3 s4
  go_wp2_with fail
  clear f0 d0 f1 d1 hx1 CH1 s2 s3 s4 SN RN DN LN GN
  refine (toArith_k m.c _ _ RR.out.ar (by have := HN.out; unfold EM.sz at this; omega)).mono ?_
  rintro e' y1 ⟨u, F1, rfl, oo, ll, gg⟩
  obtain ⟨K2, n2, q2, K3, n3, q3, rfl⟩ := carith_oform oo
  have SN := S0.out.grow gg
  have RN := R0.out.grow gg
  have DN := D0.out.grow gg
  have zN := gg.size
  have LN := LL.out.app gg (ownL.of (vs := [_, _, _]) oo ll) (by omega)
  have GN := gbT GG.out gg
  have f2 := DN.frozen 2
  have d2 := DN.cell 2
  have f3 := DN.frozen 3
  have d3 := DN.cell 3
  have f4 := DN.frozen 4
  have d4 := DN.cell 4
  simp only [List.getElem?_toArray, List.getElem?_cons_succ, List.getElem?_cons_zero] at d2 d3 d4
  obtain ⟨x2, hx2⟩ : ∃ x : World, (((y1).setCell ⟨w.heap.size + 1 + 1, 2, none⟩ (.int .i64 m.c.p)).setCell ⟨w.heap.size + 1 + 1, 3, none⟩ (.slice K2 n2 q2)).setCell ⟨w.heap.size + 1 + 1, 4, none⟩ (.slice K3 n3 q3) = x := ⟨_, rfl⟩
  have CH2 : Chg (fun y => y = w.heap.size + 1 + 1) y1 x2 := by rw [← hx2]; exact ((chgS (y1) (w.heap.size + 1 + 1) 2 (.int .i64 m.c.p)).trans (chgS ((y1).setCell ⟨w.heap.size + 1 + 1, 2, none⟩ (.int .i64 m.c.p)) (w.heap.size + 1 + 1) 3 (.slice K2 n2 q2))).trans (chgS (((y1).setCell ⟨w.heap.size + 1 + 1, 2, none⟩ (.int .i64 m.c.p)).setCell ⟨w.heap.size + 1 + 1, 3, none⟩ (.slice K2 n2 q2)) (w.heap.size + 1 + 1) 4 (.slice K3 n3 q3))
  have D2 : Hid (Blk x2 (w.heap.size + 1 + 1) 36 #[.int .i64 m.k.p, .slice K1 n1 q1, .int .i64 m.c.p, .slice K2 n2 q2, .slice K3 n3 q3, .slice none 0 0, .slice none 0 0, .int .i64 0, .bool false]) := by rw [← hx2]; exact Lib.hid ((((DN).set_ 2 (.int .i64 m.c.p)).set_ 3 (.slice K2 n2 q2)).set_ 4 (.slice K3 n3 q3))
  have S2 := Lib.hid (SN.chg CH2 (by omega))
  have R2 := Lib.hid (RN.chg CH2 (by omega))
  have L2 := Lib.hid (LN.chg CH2 (fun y hy => by omega))
  have G2 := Lib.hid (gbChg GN CH2 (fun y hy => by omega))
  have z2 : w.heap.size + 3 ≤ x2.heap.size := by have := CH2.size; omega
  clear S0 R0 D0 LL GG RR oo ll gg zN z0
  have S0 := S2
  have R0 := R2
  have D0 := D2
  have LL := L2
  have GG := G2
  have z0 := z2
  have RR := Lib.hid (P0.out.grow GG.out)
  have s5 := S0.out.cell 5
  simp only [List.getElem?_toArray, List.getElem?_cons_succ, List.getElem?_cons_zero] at s5
  go_wp2_with fail
  clear f2 d2 f3 d3 f4 d4 hx2 CH2 s5 SN RN DN LN GN
  refine (toAuthS_z m.vs _ _ RR.out.va (by have := HN.out; unfold EM.sz at this; omega)).mono ?_
  rintro e' y2 ⟨u, F2, rfl, oo, ll, gg⟩
  obtain ⟨K4, n4, q4, rfl⟩ := row_form oo
  have SN := S0.out.grow gg
  have RN := R0.out.grow gg
  have DN := D0.out.grow gg
  have zN := gg.size
  have LN := LL.out.app gg (ownL.one oo ll) (by omega)
  have GN := gbT GG.out gg
  have f5 := DN.frozen 5
  have d5 := DN.cell 5
  simp only [List.getElem?_toArray, List.getElem?_cons_succ, List.getElem?_cons_zero] at d5
  obtain ⟨x3, hx3⟩ : ∃ x : World, (y2).setCell ⟨w.heap.size + 1 + 1, 5, none⟩ (.slice K4 n4 q4) = x := ⟨_, rfl⟩
  have CH3 : Chg (fun y => y = w.heap.size + 1 + 1) y2 x3 := by rw [← hx3]; exact chgS (y2) (w.heap.size + 1 + 1) 5 (.slice K4 n4 q4)
  have D3 : Hid (Blk x3 (w.heap.size + 1 + 1) 36 #[.int .i64 m.k.p, .slice K1 n1 q1, .int .i64 m.c.p, .slice K2 n2 q2, .slice K3 n3 q3, .slice K4 n4 q4, .slice none 0 0, .int .i64 0, .bool false]) := by rw [← hx3]; exact Lib.hid ((DN).set_ 5 (.slice K4 n4 q4))
  have S3 := Lib.hid (SN.chg CH3 (by omega))
  have R3 := Lib.hid (RN.chg CH3 (by omega))
  have L3 := Lib.hid (LN.chg CH3 (fun y hy => by omega))
  have G3 := Lib.hid (gbChg GN CH3 (fun y hy => by omega))
  have z3 : w.heap.size + 3 ≤ x3.heap.size := by have := CH3.size; omega
  clear S0 R0 D0 LL GG RR oo ll gg zN z0
  have S0 := S3
  have R0 := R3
  have D0 := D3
  have LL := L3
  have GG := G3
  have z0 := z3
  have RR := Lib.hid (P0.out.grow GG.out)
  have s6 := S0.out.cell 6
  simp only [List.getElem?_toArray, List.getElem?_cons_succ, List.getElem?_cons_zero] at s6
  go_wp2_with fail
  clear f5 d5 hx3 CH3 s6 SN RN DN LN GN
  refine (toIntS_k m.op _ _ RR.out.opn (by have := HN.out; unfold EM.sz at this; omega)).mono ?_
  rintro e' y3 ⟨u, F3, rfl, oo, ll, gg⟩
  obtain ⟨K5, n5, q5, rfl⟩ := row_form oo
  have SN := S0.out.grow gg
  have RN := R0.out.grow gg
  have DN := D0.out.grow gg
  have zN := gg.size
  have LN := LL.out.app gg (ownL.one oo ll) (by omega)
  have GN := gbT GG.out gg
  have f6 := DN.frozen 6
  have d6 := DN.cell 6
  simp only [List.getElem?_toArray, List.getElem?_cons_succ, List.getElem?_cons_zero] at d6
  obtain ⟨x4, hx4⟩ : ∃ x : World, (y3).setCell ⟨w.heap.size + 1 + 1, 6, none⟩ (.slice K5 n5 q5) = x := ⟨_, rfl⟩
  have CH4 : Chg (fun y => y = w.heap.size + 1 + 1) y3 x4 := by rw [← hx4]; exact chgS (y3) (w.heap.size + 1 + 1) 6 (.slice K5 n5 q5)
  have D4 : Hid (Blk x4 (w.heap.size + 1 + 1) 36 #[.int .i64 m.k.p, .slice K1 n1 q1, .int .i64 m.c.p, .slice K2 n2 q2, .slice K3 n3 q3, .slice K4 n4 q4, .slice K5 n5 q5, .int .i64 0, .bool false]) := by rw [← hx4]; exact Lib.hid ((DN).set_ 6 (.slice K5 n5 q5))
  have S4 := Lib.hid (SN.chg CH4 (by omega))
  have R4 := Lib.hid (RN.chg CH4 (by omega))
  have L4 := Lib.hid (LN.chg CH4 (fun y hy => by omega))
  have G4 := Lib.hid (gbChg GN CH4 (fun y hy => by omega))
  have z4 : w.heap.size + 3 ≤ x4.heap.size := by have := CH4.size; omega
  have f7 := D4.out.frozen 7
  have d7 := D4.out.cell 7
  simp only [List.getElem?_toArray, List.getElem?_cons_succ, List.getElem?_cons_zero] at d7
  have s7 := S4.out.cell 7
  simp only [List.getElem?_toArray, List.getElem?_cons_succ, List.getElem?_cons_zero] at s7
  obtain ⟨x5, hx5⟩ : ∃ x : World, (x4).setCell ⟨w.heap.size + 1 + 1, 7, none⟩ (.int .i64 m.rd) = x := ⟨_, rfl⟩
  have CH5 : Chg (fun y => y = w.heap.size + 1 + 1) x4 x5 := by rw [← hx5]; exact chgS (x4) (w.heap.size + 1 + 1) 7 (.int .i64 m.rd)
  have D5 : Hid (Blk x5 (w.heap.size + 1 + 1) 36 #[.int .i64 m.k.p, .slice K1 n1 q1, .int .i64 m.c.p, .slice K2 n2 q2, .slice K3 n3 q3, .slice K4 n4 q4, .slice K5 n5 q5, .int .i64 m.rd, .bool false]) := by rw [← hx5]; exact Lib.hid ((D4.out).set_ 7 (.int .i64 m.rd))
  have S5 := Lib.hid (S4.out.chg CH5 (by omega))
  have R5 := Lib.hid (R4.out.chg CH5 (by omega))
  have L5 := Lib.hid (L4.out.chg CH5 (fun y hy => by omega))
  have G5 := Lib.hid (gbChg G4.out CH5 (fun y hy => by omega))
  have z5 : w.heap.size + 3 ≤ x5.heap.size := by have := CH5.size; omega
  have f8 := D5.out.frozen 8
  have d8 := D5.out.cell 8
  simp only [List.getElem?_toArray, List.getElem?_cons_succ, List.getElem?_cons_zero] at d8
  have s8 := S5.out.cell 8
  simp only [List.getElem?_toArray, List.getElem?_cons_succ, List.getElem?_cons_zero] at s8
  obtain ⟨x6, hx6⟩ : ∃ x : World, (x5).setCell ⟨w.heap.size + 1 + 1, 8, none⟩ (.bool m.bad) = x := ⟨_, rfl⟩
  have CH6 : Chg (fun y => y = w.heap.size + 1 + 1) x5 x6 := by rw [← hx6]; exact chgS (x5) (w.heap.size + 1 + 1) 8 (.bool m.bad)
  have D6 : Hid (Blk x6 (w.heap.size + 1 + 1) 36 #[.int .i64 m.k.p, .slice K1 n1 q1, .int .i64 m.c.p, .slice K2 n2 q2, .slice K3 n3 q3, .slice K4 n4 q4, .slice K5 n5 q5, .int .i64 m.rd, .bool m.bad]) := by rw [← hx6]; exact Lib.hid ((D5.out).set_ 8 (.bool m.bad))
  have S6 := Lib.hid (S5.out.chg CH6 (by omega))
  have R6 := Lib.hid (R5.out.chg CH6 (by omega))
  have L6 := Lib.hid (L5.out.chg CH6 (fun y hy => by omega))
  have G6 := Lib.hid (gbChg G5.out CH6 (fun y hy => by omega))
  have z6 : w.heap.size + 3 ≤ x6.heap.size := by have := CH6.size; omega
  clear S0 R0 D0 LL GG RR oo ll gg zN z0
  have S0 := S6
  have R0 := R6
  have D0 := D6
  have LL := L6
  have GG := G6
  have z0 := z6
  have RR := Lib.hid (P0.out.grow GG.out)
  have e0 := D0.out.cell 0
  have r0 := R0.out.cell 0
  have t0 := R0.out.frozen 0
  have e1 := D0.out.cell 1
  have r1 := R0.out.cell 1
  have t1 := R0.out.frozen 1
  have e2 := D0.out.cell 2
  have r2 := R0.out.cell 2
  have t2 := R0.out.frozen 2
  have e3 := D0.out.cell 3
  have r3 := R0.out.cell 3
  have t3 := R0.out.frozen 3
  have e4 := D0.out.cell 4
  have r4 := R0.out.cell 4
  have t4 := R0.out.frozen 4
  have e5 := D0.out.cell 5
  have r5 := R0.out.cell 5
  have t5 := R0.out.frozen 5
  have e6 := D0.out.cell 6
  have r6 := R0.out.cell 6
  have t6 := R0.out.frozen 6
  have e7 := D0.out.cell 7
  have r7 := R0.out.cell 7
  have t7 := R0.out.frozen 7
  have e8 := D0.out.cell 8
  have r8 := R0.out.cell 8
  have t8 := R0.out.frozen 8
  simp only [List.getElem?_toArray, List.getElem?_cons_succ, List.getElem?_cons_zero] at e0 e1 e2 e3 e4 e5 e6 e7 e8 r0 r1 r2 r3 r4 r5 r6 r7 r8
  have BF := Lib.hid (blk_setCells R0.out [.int .i64 m.k.p, .slice K1 n1 q1, .int .i64 m.c.p, .slice K2 n2 q2, .slice K3 n3 q3, .slice K4 n4 q4, .slice K5 n5 q5, .int .i64 m.rd, .bool m.bad] rfl)
  have CF := chg_setCells (w.heap.size + 1) [.int .i64 m.k.p, .slice K1 n1 q1, .int .i64 m.c.p, .slice K2 n2 q2, .slice K3 n3 q3, .slice K4 n4 q4, .slice K5 n5 q5, .int .i64 m.rd, .bool m.bad] 0 x6
  have hz : ownL x6.heap.size [ci m.rd, cb m.bad] [.int .i64 m.rd, .bool m.bad] x6 := ((ownL.nil _ x6).pl (x := .bool m.bad) rfl).pl (x := .int .i64 m.rd) rfl
  have AF := ((LL.out.app (gbR x6 none) hz z0).chg CF (fun y hy => by have hy : y = _ := hy; omega)).agg
  have AF := Lib.hid AF
  have GF := Lib.hid (gbChg GG.out CF (fun y hy => by have hy : y = _ := hy; omega))
  simp only [setCells, Nat.zero_add, Nat.reduceAdd] at BF GF AF
  clear CF hz
  go_wp2_with fail
  clear f6 d6 hx4 CH4 f7 d7 s7 hx5 CH5 f8 d8 s8 hx6 CH6 SN RN DN LN GN
  refine ret_c Try.results26 (by rfl) stEngine (cs := #[.int .i64 m.k.p, .slice K1 n1 q1, .int .i64 m.c.p, .slice K2 n2 q2, .slice K3 n3 q3, .slice K4 n4 q4, .slice K5 n5 q5, .int .i64 m.rd, .bool m.bad]) BF.out (by rfl) (by rfl) ?_
  obtain ⟨F, hA, hl⟩ := AF.out
  exact ⟨_, F, rfl, hA, fun g hg => by have := hl g hg; omega, GF.out⟩
set_option maxHeartbeats 4000000 in
set_option maxRecDepth 100000 in
theorem eqEngine_k (m : EM) (v u : Value) (w : World) (h : AggR w (cengine m) v) (k : AggR w (cengine m) u) (hn : m.sz ≤ 1048576) :
    Calls Try.prog 28 #[v, u] w fun e w' => e = .returned (.bool true) ∧ w.grownBy w' none := by
  obtain ⟨A, B, C, D, E, a, b, c, d, e, rfl, hR⟩ := cengine_open h
  obtain ⟨A', B', C', D', E', a', b', c', d', e', rfl, hQ⟩ := cengine_open k
  have HN := Lib.hid hn
  obtain ⟨x0, hx0⟩ : ∃ x : World, (w.alloc (.cells #[.int .i64 m.k.p, .slice A m.k.al.length a, .int .i64 m.c.p, .slice B m.c.st.length b, .slice C m.c.outs.length c, .slice D m.vs.length d, .slice E m.op.length e, .int .i64 m.rd, .bool m.bad] 36)).alloc (.cells #[.int .i64 m.k.p, .slice A' m.k.al.length a', .int .i64 m.c.p, .slice B' m.c.st.length b', .slice C' m.c.outs.length c', .slice D' m.vs.length d', .slice E' m.op.length e', .int .i64 m.rd, .bool m.bad] 36) = x := ⟨_, rfl⟩
  have GG : Hid (w.grownBy x0 none) := by rw [← hx0]; exact gbA (gbA (gbR _ _) _) _
  have S0 : Hid (Blk x0 w.heap.size 36 #[.int .i64 m.k.p, .slice A m.k.al.length a, .int .i64 m.c.p, .slice B m.c.st.length b, .slice C m.c.outs.length c, .slice D m.vs.length d, .slice E m.op.length e, .int .i64 m.rd, .bool m.bad]) := by rw [← hx0]; exact (Blk.new w _ _).grow (gbA (gbR _ _) _)
  have T0 : Hid (Blk x0 (w.heap.size + 1) 36 #[.int .i64 m.k.p, .slice A' m.k.al.length a', .int .i64 m.c.p, .slice B' m.c.st.length b', .slice C' m.c.outs.length c', .slice D' m.vs.length d', .slice E' m.op.length e', .int .i64 m.rd, .bool m.bad]) := by rw [← hx0]; exact Blk.new' _ _ _ _ (by simp)
  have RR := Lib.hid hR
  have QQ := Lib.hid hQ
  clear h k hn hR hQ
  go_enter Try.func28, Try.ntmps28
  have s0 := S0.out.cell 0
  have t0 := T0.out.cell 0
  have s1 := S0.out.cell 1
  have t1 := T0.out.cell 1
  simp only [List.getElem?_toArray, List.getElem?_cons_succ, List.getElem?_cons_zero] at s0 t0 s1 t1
  go_wp2_with fail
  clear s0 t0 s1 t1 hx0
  refine (eqKeys_k m.k _ _ _ (RR.out.grow GG.out).ky (QQ.out.grow GG.out).ky (by have := HN.out; unfold EM.sz at this; omega)).mono ?_
  rintro e' x1 ⟨rfl, gg⟩
  have S1 := Lib.hid (S0.out.grow gg)
  have T1 := Lib.hid (T0.out.grow gg)
  have G1 := Lib.hid (gbT GG.out gg)
  clear S0 T0 GG gg
  have S0 := S1
  have T0 := T1
  have GG := G1
  clear S1 T1 G1
  have s2 := S0.out.cell 2
  have t2 := T0.out.cell 2
  have s3 := S0.out.cell 3
  have t3 := T0.out.cell 3
  have s4 := S0.out.cell 4
  have t4 := T0.out.cell 4
  simp only [List.getElem?_toArray, List.getElem?_cons_succ, List.getElem?_cons_zero] at s2 t2 s3 t3 s4 t4
  go_wp2_with fail
  clear s2 t2 s3 t3 s4 t4
  refine (eqArith_k m.c _ _ _ (RR.out.grow GG.out).ar (QQ.out.grow GG.out).ar (by have := HN.out; unfold EM.sz at this; omega)).mono ?_
  rintro e' x2 ⟨rfl, gg⟩
  have S1 := Lib.hid (S0.out.grow gg)
  have T1 := Lib.hid (T0.out.grow gg)
  have G1 := Lib.hid (gbT GG.out gg)
  clear S0 T0 GG gg
  have S0 := S1
  have T0 := T1
  have GG := G1
  clear S1 T1 G1
  have s5 := S0.out.cell 5
  have t5 := T0.out.cell 5
  simp only [List.getElem?_toArray, List.getElem?_cons_succ, List.getElem?_cons_zero] at s5 t5
  go_wp2_with fail
  clear s5 t5
  refine (eqAuthS_z m.vs _ _ _ (RR.out.grow GG.out).va (QQ.out.grow GG.out).va (by have := HN.out; unfold EM.sz at this; omega)).mono ?_
  rintro e' x3 ⟨rfl, gg⟩
  have S1 := Lib.hid (S0.out.grow gg)
  have T1 := Lib.hid (T0.out.grow gg)
  have G1 := Lib.hid (gbT GG.out gg)
  clear S0 T0 GG gg
  have S0 := S1
  have T0 := T1
  have GG := G1
  clear S1 T1 G1
  have s6 := S0.out.cell 6
  have t6 := T0.out.cell 6
  simp only [List.getElem?_toArray, List.getElem?_cons_succ, List.getElem?_cons_zero] at s6 t6
  go_wp2_with fail
  clear s6 t6
  refine (eqIntS_k m.op _ _ _ (RR.out.grow GG.out).opn (QQ.out.grow GG.out).opn (by have := HN.out; unfold EM.sz at this; omega)).mono ?_
  rintro e' x4 ⟨rfl, gg⟩
  have S1 := Lib.hid (S0.out.grow gg)
  have T1 := Lib.hid (T0.out.grow gg)
  have G1 := Lib.hid (gbT GG.out gg)
  clear S0 T0 GG gg
  have S0 := S1
  have T0 := T1
  have GG := G1
  clear S1 T1 G1
  have s7 := S0.out.cell 7
  have t7 := T0.out.cell 7
  have s8 := S0.out.cell 8
  have t8 := T0.out.cell 8
  simp only [List.getElem?_toArray, List.getElem?_cons_succ, List.getElem?_cons_zero] at s7 t7 s8 t8
  go_wp2_with fail
  clear s7 t7 s8 t8
  go_ret
  exact ⟨rfl, GG.out⟩
set_option maxHeartbeats 4000000 in
set_option maxRecDepth 100000 in
theorem szEngine_k (m : EM) (v : Value) (l : Nat) (w : World) (h : AggR w (cengine m) v) (hl : l ≤ 1048576) :
    Calls Try.prog 24 #[v, .int .i64 l] w fun e w' => e = .returned (.int .i64 (szO l m.sz)) ∧ w.grownBy w' none := by
  obtain ⟨A, B, C, D, E, a, b, c, d, e, rfl, hR⟩ := cengine_open h
  obtain ⟨x0, hx0⟩ : ∃ x : World, w.alloc (.cells #[.int .i64 m.k.p, .slice A m.k.al.length a, .int .i64 m.c.p, .slice B m.c.st.length b, .slice C m.c.outs.length c, .slice D m.vs.length d, .slice E m.op.length e, .int .i64 m.rd, .bool m.bad] 64) = x := ⟨_, rfl⟩
  have GG : Hid (w.grownBy x0 none) := by rw [← hx0]; exact gbA (gbR _ _) _
  have S0 : Hid (Blk x0 w.heap.size 64 #[.int .i64 m.k.p, .slice A m.k.al.length a, .int .i64 m.c.p, .slice B m.c.st.length b, .slice C m.c.outs.length c, .slice D m.vs.length d, .slice E m.op.length e, .int .i64 m.rd, .bool m.bad]) := by rw [← hx0]; exact Blk.new w _ _
  have RR := Lib.hid hR
  have HX0 := Lib.hid hx0
  clear h hR hx0
  by_cases b0 : m.k.sz ≤ l
  · have C0 := Lib.hid (szO_yes b0)
    have Y0 := Lib.hid b0
    clear b0
    by_cases b1 : m.c.sz ≤ l - m.k.sz
    · have C1 := Lib.hid (szO_yes b1)
      have Y1 := Lib.hid b1
      clear b1
      by_cases b2 : szA m.vs ≤ l - m.k.sz - m.c.sz
      · have C2 := Lib.hid (szO_yes b2)
        have Y2 := Lib.hid b2
        clear b2
        by_cases b3 : m.op.length ≤ l - m.k.sz - m.c.sz - szA m.vs
        · have C3 := Lib.hid (szO_yes b3)
          have Y3 := Lib.hid b3
          clear b3
          go_enter Try.func24, Try.ntmps24
          have hx0 := HX0.out
          have s0 := S0.out.cell 0
          have s1 := S0.out.cell 1
          simp only [List.getElem?_toArray, List.getElem?_cons_succ, List.getElem?_cons_zero] at s0 s1
          go_wp2_with fail
          clear s0 s1 hx0
          refine (szKeys_k m.k _ (l) _ (RR.out.grow GG.out).ky (by omega)).mono ?_
          rintro e' x1 ⟨rfl, gg⟩
          rw [C0.out]
          have S1 := Lib.hid (S0.out.grow gg)
          have G1 := Lib.hid (gbT GG.out gg)
          clear S0 GG gg
          have S0 := S1
          have GG := G1
          clear S1 G1
          have n0 : ¬ ((l - m.k.sz : Nat) : Int) < 0 := by omega
          have s2 := S0.out.cell 2
          have s3 := S0.out.cell 3
          have s4 := S0.out.cell 4
          simp only [List.getElem?_toArray, List.getElem?_cons_succ, List.getElem?_cons_zero] at s2 s3 s4
          go_wp2_with fail
          clear s2 s3 s4
          refine (szArith_k m.c _ (l - m.k.sz) _ (RR.out.grow GG.out).ar (by omega)).mono ?_
          rintro e' x2 ⟨rfl, gg⟩
          rw [C1.out]
          have S1 := Lib.hid (S0.out.grow gg)
          have G1 := Lib.hid (gbT GG.out gg)
          clear S0 GG gg
          have S0 := S1
          have GG := G1
          clear S1 G1
          have n1 : ¬ ((l - m.k.sz - m.c.sz : Nat) : Int) < 0 := by omega
          have s5 := S0.out.cell 5
          simp only [List.getElem?_toArray, List.getElem?_cons_succ, List.getElem?_cons_zero] at s5
          go_wp2_with fail
          clear s5
          refine (szAuthS_z m.vs _ (l - m.k.sz - m.c.sz) _ (RR.out.grow GG.out).va (by omega)).mono ?_
          rintro e' x3 ⟨rfl, gg⟩
          rw [C2.out]
          have S1 := Lib.hid (S0.out.grow gg)
          have G1 := Lib.hid (gbT GG.out gg)
          clear S0 GG gg
          have S0 := S1
          have GG := G1
          clear S1 G1
          have n2 : ¬ ((l - m.k.sz - m.c.sz - szA m.vs : Nat) : Int) < 0 := by omega
          have s6 := S0.out.cell 6
          simp only [List.getElem?_toArray, List.getElem?_cons_succ, List.getElem?_cons_zero] at s6
          go_wp2_with fail
          clear s6
          refine (szIntS_k m.op _ (l - m.k.sz - m.c.sz - szA m.vs) _ (RR.out.grow GG.out).opn (by omega)).mono ?_
          rintro e' x4 ⟨rfl, gg⟩
          rw [C3.out]
          have S1 := Lib.hid (S0.out.grow gg)
          have G1 := Lib.hid (gbT GG.out gg)
          clear S0 GG gg
          have S0 := S1
          have GG := G1
          clear S1 G1
          have n3 : ¬ ((l - m.k.sz - m.c.sz - szA m.vs - m.op.length : Nat) : Int) < 0 := by omega
          go_wp2_with fail
          go_ret
          exact ⟨retI (by have := Y0.out; have := Y1.out; have := Y2.out; have := Y3.out; rw [szO_yes (by unfold EM.sz; omega)]; unfold EM.sz; omega), GG.out⟩
        · have C3 := Lib.hid (szO_no (Nat.lt_of_not_le b3))
          have N3 := Lib.hid b3
          clear b3
          go_enter Try.func24, Try.ntmps24
          have hx0 := HX0.out
          have s0 := S0.out.cell 0
          have s1 := S0.out.cell 1
          simp only [List.getElem?_toArray, List.getElem?_cons_succ, List.getElem?_cons_zero] at s0 s1
          go_wp2_with fail
          clear s0 s1 hx0
          refine (szKeys_k m.k _ (l) _ (RR.out.grow GG.out).ky (by omega)).mono ?_
          rintro e' x1 ⟨rfl, gg⟩
          rw [C0.out]
          have S1 := Lib.hid (S0.out.grow gg)
          have G1 := Lib.hid (gbT GG.out gg)
          clear S0 GG gg
          have S0 := S1
          have GG := G1
          clear S1 G1
          have n0 : ¬ ((l - m.k.sz : Nat) : Int) < 0 := by omega
          have s2 := S0.out.cell 2
          have s3 := S0.out.cell 3
          have s4 := S0.out.cell 4
          simp only [List.getElem?_toArray, List.getElem?_cons_succ, List.getElem?_cons_zero] at s2 s3 s4
          go_wp2_with fail
          clear s2 s3 s4
          refine (szArith_k m.c _ (l - m.k.sz) _ (RR.out.grow GG.out).ar (by omega)).mono ?_
          rintro e' x2 ⟨rfl, gg⟩
          rw [C1.out]
          have S1 := Lib.hid (S0.out.grow gg)
          have G1 := Lib.hid (gbT GG.out gg)
          clear S0 GG gg
          have S0 := S1
          have GG := G1
          clear S1 G1
          have n1 : ¬ ((l - m.k.sz - m.c.sz : Nat) : Int) < 0 := by omega
          have s5 := S0.out.cell 5
          simp only [List.getElem?_toArray, List.getElem?_cons_succ, List.getElem?_cons_zero] at s5
          go_wp2_with fail
          clear s5
          refine (szAuthS_z m.vs _ (l - m.k.sz - m.c.sz) _ (RR.out.grow GG.out).va (by omega)).mono ?_
          rintro e' x3 ⟨rfl, gg⟩
          rw [C2.out]
          have S1 := Lib.hid (S0.out.grow gg)
          have G1 := Lib.hid (gbT GG.out gg)
          clear S0 GG gg
          have S0 := S1
          have GG := G1
          clear S1 G1
          have n2 : ¬ ((l - m.k.sz - m.c.sz - szA m.vs : Nat) : Int) < 0 := by omega
          have s6 := S0.out.cell 6
          simp only [List.getElem?_toArray, List.getElem?_cons_succ, List.getElem?_cons_zero] at s6
          go_wp2_with fail
          clear s6
          refine (szIntS_k m.op _ (l - m.k.sz - m.c.sz - szA m.vs) _ (RR.out.grow GG.out).opn (by omega)).mono ?_
          rintro e' x4 ⟨rfl, gg⟩
          rw [C3.out]
          have S1 := Lib.hid (S0.out.grow gg)
          have G1 := Lib.hid (gbT GG.out gg)
          clear S0 GG gg
          have S0 := S1
          have GG := G1
          clear S1 G1
          go_wp2_with fail
          go_ret
          exact ⟨retI (by rw [szO_no]; have := N3.out; have := Y0.out; have := Y1.out; have := Y2.out; unfold EM.sz; omega), GG.out⟩
      · have C2 := Lib.hid (szO_no (Nat.lt_of_not_le b2))
        have N2 := Lib.hid b2
        clear b2
        go_enter Try.func24, Try.ntmps24
        have hx0 := HX0.out
        have s0 := S0.out.cell 0
        have s1 := S0.out.cell 1
        simp only [List.getElem?_toArray, List.getElem?_cons_succ, List.getElem?_cons_zero] at s0 s1
        go_wp2_with fail
        clear s0 s1 hx0
        refine (szKeys_k m.k _ (l) _ (RR.out.grow GG.out).ky (by omega)).mono ?_
        rintro e' x1 ⟨rfl, gg⟩
        rw [C0.out]
        have S1 := Lib.hid (S0.out.grow gg)
        have G1 := Lib.hid (gbT GG.out gg)
        clear S0 GG gg
        have S0 := S1
        have GG := G1
        clear S1 G1
        have n0 : ¬ ((l - m.k.sz : Nat) : Int) < 0 := by omega
        have s2 := S0.out.cell 2
        have s3 := S0.out.cell 3
        have s4 := S0.out.cell 4
        simp only [List.getElem?_toArray, List.getElem?_cons_succ, List.getElem?_cons_zero] at s2 s3 s4
        go_wp2_with fail
        clear s2 s3 s4
        refine (szArith_k m.c _ (l - m.k.sz) _ (RR.out.grow GG.out).ar (by omega)).mono ?_
        rintro e' x2 ⟨rfl, gg⟩
        rw [C1.out]
        have S1 := Lib.hid (S0.out.grow gg)
        have G1 := Lib.hid (gbT GG.out gg)
        clear S0 GG gg
        have S0 := S1
        have GG := G1
        clear S1 G1
        have n1 : ¬ ((l - m.k.sz - m.c.sz : Nat) : Int) < 0 := by omega
        have s5 := S0.out.cell 5
        simp only [List.getElem?_toArray, List.getElem?_cons_succ, List.getElem?_cons_zero] at s5
        go_wp2_with fail
        clear s5
        refine (szAuthS_z m.vs _ (l - m.k.sz - m.c.sz) _ (RR.out.grow GG.out).va (by omega)).mono ?_
        rintro e' x3 ⟨rfl, gg⟩
        rw [C2.out]
        have S1 := Lib.hid (S0.out.grow gg)
        have G1 := Lib.hid (gbT GG.out gg)
        clear S0 GG gg
        have S0 := S1
        have GG := G1
        clear S1 G1
        go_wp2_with fail
        go_ret
        exact ⟨retI (by rw [szO_no]; have := N2.out; have := Y0.out; have := Y1.out; unfold EM.sz; omega), GG.out⟩
    · have C1 := Lib.hid (szO_no (Nat.lt_of_not_le b1))
      have N1 := Lib.hid b1
      clear b1
      go_enter Try.func24, Try.ntmps24
      have hx0 := HX0.out
      have s0 := S0.out.cell 0
      have s1 := S0.out.cell 1
      simp only [List.getElem?_toArray, List.getElem?_cons_succ, List.getElem?_cons_zero] at s0 s1
      go_wp2_with fail
      clear s0 s1 hx0
      refine (szKeys_k m.k _ (l) _ (RR.out.grow GG.out).ky (by omega)).mono ?_
      rintro e' x1 ⟨rfl, gg⟩
      rw [C0.out]
      have S1 := Lib.hid (S0.out.grow gg)
      have G1 := Lib.hid (gbT GG.out gg)
      clear S0 GG gg
      have S0 := S1
      have GG := G1
      clear S1 G1
      have n0 : ¬ ((l - m.k.sz : Nat) : Int) < 0 := by omega
      have s2 := S0.out.cell 2
      have s3 := S0.out.cell 3
      have s4 := S0.out.cell 4
      simp only [List.getElem?_toArray, List.getElem?_cons_succ, List.getElem?_cons_zero] at s2 s3 s4
      go_wp2_with fail
      clear s2 s3 s4
      refine (szArith_k m.c _ (l - m.k.sz) _ (RR.out.grow GG.out).ar (by omega)).mono ?_
      rintro e' x2 ⟨rfl, gg⟩
      rw [C1.out]
      have S1 := Lib.hid (S0.out.grow gg)
      have G1 := Lib.hid (gbT GG.out gg)
      clear S0 GG gg
      have S0 := S1
      have GG := G1
      clear S1 G1
      go_wp2_with fail
      go_ret
      exact ⟨retI (by rw [szO_no]; have := N1.out; have := Y0.out; unfold EM.sz; omega), GG.out⟩
  · have C0 := Lib.hid (szO_no (Nat.lt_of_not_le b0))
    have N0 := Lib.hid b0
    clear b0
    go_enter Try.func24, Try.ntmps24
    have hx0 := HX0.out
    have s0 := S0.out.cell 0
    have s1 := S0.out.cell 1
    simp only [List.getElem?_toArray, List.getElem?_cons_succ, List.getElem?_cons_zero] at s0 s1
    go_wp2_with fail
    clear s0 s1 hx0
    refine (szKeys_k m.k _ (l) _ (RR.out.grow GG.out).ky (by omega)).mono ?_
    rintro e' x1 ⟨rfl, gg⟩
    rw [C0.out]
    have S1 := Lib.hid (S0.out.grow gg)
    have G1 := Lib.hid (gbT GG.out gg)
    clear S0 GG gg
    have S0 := S1
    have GG := G1
    clear S1 G1
    go_wp2_with fail
    go_ret
    exact ⟨retI (by rw [szO_no]; have := N0.out; unfold EM.sz; omega), GG.out⟩
theorem cengine_xopen {w : World} {m : EM} {v : Value} (h : AggR w (cengine m) v) : ∃ u1 u2 u3 u4 u5, v = .agg #[.int .i64 m.k.p, u1, .int .i64 m.c.p, u2, u3, u4, u5, .int .i64 m.rd, .bool m.bad] ∧ (cints m.k.al).rd w u1 ∧ (csteps m.c.st).rd w u2 ∧ (cints m.c.outs).rd w u3 ∧ (cauths m.vs).rd w u4 ∧ (cints m.op).rd w u5 := by
  obtain ⟨vs, rfl, h⟩ := h
  obtain ⟨u0, vs0, rfl, h0, h⟩ := RdAll.head h
  obtain ⟨u1, vs1, rfl, h1, h⟩ := RdAll.head h
  obtain ⟨u2, vs2, rfl, h2, h⟩ := RdAll.head h
  obtain ⟨u3, vs3, rfl, h3, h⟩ := RdAll.head h
  obtain ⟨u4, vs4, rfl, h4, h⟩ := RdAll.head h
  obtain ⟨u5, vs5, rfl, h5, h⟩ := RdAll.head h
  obtain ⟨u6, vs6, rfl, h6, h⟩ := RdAll.head h
  obtain ⟨u7, vs7, rfl, h7, h⟩ := RdAll.head h
  obtain ⟨u8, vs8, rfl, h8, h⟩ := RdAll.head h
  obtain rfl := RdAll.none h
  obtain rfl := ci_rd h0
  obtain rfl := ci_rd h2
  obtain rfl := ci_rd h7
  obtain rfl := cb_rd h8
  exact ⟨u1, u3, u4, u5, u6, rfl, h1, h3, h4, h5, h6⟩
theorem cengine_mk {w : World} {m : EM} {u1 u2 u3 u4 u5 : Value} (h1 : (cints m.k.al).rd w u1) (h2 : (csteps m.c.st).rd w u2) (h3 : (cints m.c.outs).rd w u3) (h4 : (cauths m.vs).rd w u4) (h5 : (cints m.op).rd w u5) : AggR w (cengine m) (.agg #[.int .i64 m.k.p, u1, .int .i64 m.c.p, u2, u3, u4, u5, .int .i64 m.rd, .bool m.bad]) :=
  ⟨_, rfl, RdAll.cons (ci_mk _ _) (RdAll.cons h1 (RdAll.cons (ci_mk _ _) (RdAll.cons h2 (RdAll.cons h3 (RdAll.cons h4 (RdAll.cons h5 (RdAll.cons (ci_mk _ _) (RdAll.cons (cb_mk _ _) (RdAll.nil _)))))))))⟩
theorem cengine_oform {w : World} {m : EM} {F : List Nat} {v : Value} (h : AggO w (cengine m) F v) : ∃ (A1 : Option Addr) (n1 s1 : Nat) (A2 : Option Addr) (n2 s2 : Nat) (A3 : Option Addr) (n3 s3 : Nat) (A4 : Option Addr) (n4 s4 : Nat) (A5 : Option Addr) (n5 s5 : Nat), v = .agg #[.int .i64 m.k.p, .slice A1 n1 s1, .int .i64 m.c.p, .slice A2 n2 s2, .slice A3 n3 s3, .slice A4 n4 s4, .slice A5 n5 s5, .int .i64 m.rd, .bool m.bad] := by
  obtain ⟨A, B, C, D, E, a, b, c, d, e, hv, _⟩ := cengine_open h.rd
  exact ⟨A, _, a, B, _, b, C, _, c, D, _, d, E, _, e, hv⟩
theorem EM.cnt_bd {m : EM} (h : m.sz ≤ 1048576) : 1 ≤ m.cnt 1 ∧ m.cnt 1 ≤ 16777216 := by
  have hz : m.k.al.length + (m.c.st.length + m.c.outs.length) + (m.vs.length + auS m.vs m.vs.length) + m.op.length ≤ 1048576 := h
  have hc : m.cnt 1 = 1 + m.k.al.length + 3 * m.c.st.length + m.c.outs.length + (auS m.vs m.vs.length : Nat) + m.op.length := rfl
  rw [hc]
  omega
def EM.wf (m : EM) : Prop := m.k.wf ∧ m.c.wf ∧ (∀ x ∈ m.vs, x.wf) ∧ (∀ z ∈ m.op, i64w z) ∧ i64w m.rd
theorem EM.ewf {m : EM} (h : m.wf) (hz : m.sz ≤ 1048576) : ewf m := by
  have hz : m.k.al.length + (m.c.st.length + m.c.outs.length) + (m.vs.length + auS m.vs m.vs.length) + m.op.length ≤ 1048576 := hz
  obtain ⟨h1, h2, h3, h4, h5⟩ := h
  refine ⟨⟨h1.1, by omega⟩, ⟨h2, by omega, by omega⟩, fun a ha => ?_, by omega, by omega, h5⟩
  have h6 := len_auS m.vs a ha
  have h7 : a.sz = a.sh.length + a.mc.length := rfl
  exact ⟨by omega, by omega⟩
end Go.Proofs.Ythaadgdeadbhkaa
