/-
  eq, mark and held on an Engine whose parts keep the bound (printed by wip/gen_engp.py).
-/
import Derived.Test.YthaadgdeadbhkaaMgFnExactEngineNew31
namespace Go.Proofs.Ythaadgdeadbhkaa
open Go.RowKit
set_option linter.unusedVariables false
set_option linter.unusedSimpArgs false
def EM.prt (m : EM) : Prop := m.k.sz ≤ 1048576 ∧ m.c.sz ≤ 1048576 ∧ szA m.vs ≤ 1048576 ∧ m.op.length ≤ 1048576
theorem EM.prt_bd {m : EM} (h : m.prt) : 1 ≤ m.cnt 1 ∧ m.cnt 1 ≤ 16777216 := by
  obtain ⟨hz1, hz2, hz3, hz4⟩ : m.k.al.length ≤ 1048576 ∧ m.c.st.length + m.c.outs.length ≤ 1048576 ∧ m.vs.length + auS m.vs m.vs.length ≤ 1048576 ∧ m.op.length ≤ 1048576 := h
  have hc : m.cnt 1 = 1 + m.k.al.length + 3 * m.c.st.length + m.c.outs.length + (auS m.vs m.vs.length : Nat) + m.op.length := rfl
  rw [hc]
  omega
set_option maxHeartbeats 4000000 in
set_option maxRecDepth 100000 in
theorem eqEngine_p (m : EM) (v u : Value) (w : World) (h : AggR w (cengine m) v) (k : AggR w (cengine m) u) (hn : m.prt) :
    Calls Try.prog 28 #[v, u] w fun e w' => e = .returned (.bool true) ∧ w.grownBy w' none := by
  obtain ⟨A, B, C, D, E, a, b, c, d, e, rfl, hR⟩ := cengine_open h
  obtain ⟨A', B', C', D', E', a', b', c', d', e', rfl, hQ⟩ := cengine_open k
  have HN := Lib.hid hn
  obtain ⟨x0, hx0⟩ : ∃ x : World, (w.alloc (.cells #[.int .i64 m.k.p, .slice A m.k.al.length a, .int .i64 m.c.p, .slice B m.c.st.length b, .slice C m.c.outs.length c, .slice D m.vs.length d, .slice E m.op.length e, .int .i64 m.rd, .bool m.bad] 36)).alloc (.cells #[.int .i64 m.k.p, .slice A' m.k.al.length a', .int .i64 m.c.p, .slice B' m.c.st.length b', .slice C' m.c.outs.length c', .slice D' m.vs.length d', .slice E' m.op.length e', .int .i64 m.rd, .bool m.bad] 36) = x := ⟨_, rfl⟩
  have GG : Hid (w.grownBy x0 none) := by rw [← hx0]; exact gbA (gbA (gbR _ _) _) _
  have S0 : Hid (Blk x0 w.heap.size 36 #[.int .i64 m.k.p, .slice A m.k.al.length a, .int .i64 m.c.p, .slice B m.c.st.length b, .slice C m.c.outs.length c, .slice D m.vs.length d, .slice E m.op.length e, .int .i64 m.rd, .bool m.bad]) := by rw [← hx0]; exact (Blk.new w _ _).grow (gbA (gbR _ _) _)
  have T0 : Hid (Blk x0 (w.heap.size + 1) 36 #[.int .i64 m.k.p, .slice A' m.k.al.length a', .int .i64 m.c.p, .slice B' m.c.st.length b', .slice C' m.c.outs.length c', .slice D' m.vs.length d', .slice E' m.op.length e', .int .i64 m.rd, .bool m.bad]) := by rw [← hx0]; exact Blk.new' _ _ _ _ (by simp)
  have RR := Lib.hid hR
  have QQ := Lib.hid hQ
  clear h k hn hR hQ
  go_enter Try.func28, Try.ntmps28
  have s0 := S0.out.cell 0
  have t0 := T0.out.cell 0
  have s1 := S0.out.cell 1
  have t1 := T0.out.cell 1
  simp only [List.getElem?_toArray, List.getElem?_cons_succ, List.getElem?_cons_zero] at s0 t0 s1 t1
  go_wp2_with fail
  clear s0 t0 s1 t1 hx0
  refine (eqKeys_k m.k _ _ _ (RR.out.grow GG.out).ky (QQ.out.grow GG.out).ky (by have := HN.out; first | exact this.1 | exact this.2.1 | exact this.2.2.1 | exact this.2.2.2)).mono ?_
  rintro e' x1 ⟨rfl, gg⟩
  have S1 := Lib.hid (S0.out.grow gg)
  have T1 := Lib.hid (T0.out.grow gg)
  have G1 := Lib.hid (gbT GG.out gg)
  clear S0 T0 GG gg
  have S0 := S1
  have T0 := T1
  have GG := G1
  clear S1 T1 G1
  have s2 := S0.out.cell 2
  have t2 := T0.out.cell 2
  have s3 := S0.out.cell 3
  have t3 := T0.out.cell 3
  have s4 := S0.out.cell 4
  have t4 := T0.out.cell 4
  simp only [List.getElem?_toArray, List.getElem?_cons_succ, List.getElem?_cons_zero] at s2 t2 s3 t3 s4 t4
  go_wp2_with fail
  clear s2 t2 s3 t3 s4 t4
  refine (eqArith_k m.c _ _ _ (RR.out.grow GG.out).ar (QQ.out.grow GG.out).ar (by have := HN.out; first | exact this.1 | exact this.2.1 | exact this.2.2.1 | exact this.2.2.2)).mono ?_
  rintro e' x2 ⟨rfl, gg⟩
  have S1 := Lib.hid (S0.out.grow gg)
  have T1 := Lib.hid (T0.out.grow gg)
  have G1 := Lib.hid (gbT GG.out gg)
  clear S0 T0 GG gg
  have S0 := S1
  have T0 := T1
  have GG := G1
  clear S1 T1 G1
  have s5 := S0.out.cell 5
  have t5 := T0.out.cell 5
  simp only [List.getElem?_toArray, List.getElem?_cons_succ, List.getElem?_cons_zero] at s5 t5
  go_wp2_with fail
  clear s5 t5
  refine (eqAuthS_z m.vs _ _ _ (RR.out.grow GG.out).va (QQ.out.grow GG.out).va (by have := HN.out; first | exact this.1 | exact this.2.1 | exact this.2.2.1 | exact this.2.2.2)).mono ?_
  rintro e' x3 ⟨rfl, gg⟩
  have S1 := Lib.hid (S0.out.grow gg)
  have T1 := Lib.hid (T0.out.grow gg)
  have G1 := Lib.hid (gbT GG.out gg)
  clear S0 T0 GG gg
  have S0 := S1
  have T0 := T1
  have GG := G1
  clear S1 T1 G1
  have s6 := S0.out.cell 6
  have t6 := T0.out.cell 6
  simp only [List.getElem?_toArray, List.getElem?_cons_succ, List.getElem?_cons_zero] at s6 t6
  go_wp2_with fail
  clear s6 t6
  refine (eqIntS_k m.op _ _ _ (RR.out.grow GG.out).opn (QQ.out.grow GG.out).opn (by have := HN.out; first | exact this.1 | exact this.2.1 | exact this.2.2.1 | exact this.2.2.2)).mono ?_
  rintro e' x4 ⟨rfl, gg⟩
  have S1 := Lib.hid (S0.out.grow gg)
  have T1 := Lib.hid (T0.out.grow gg)
  have G1 := Lib.hid (gbT GG.out gg)
  clear S0 T0 GG gg
  have S0 := S1
  have T0 := T1
  have GG := G1
  clear S1 T1 G1
  have s7 := S0.out.cell 7
  have t7 := T0.out.cell 7
  have s8 := S0.out.cell 8
  have t8 := T0.out.cell 8
  simp only [List.getElem?_toArray, List.getElem?_cons_succ, List.getElem?_cons_zero] at s7 t7 s8 t8
  go_wp2_with fail
  clear s7 t7 s8 t8
  go_ret
  exact ⟨rfl, GG.out⟩
set_option maxHeartbeats 4000000 in
set_option maxRecDepth 100000 in
theorem markEngine_p (m : EM) (v : Value) (F : List Nat) (k : Int) (w : World) (h : AggO w (cengine m) F v) (hn : m.prt) (h0 : 0 ≤ k) (h1 : k ≤ 1073741824) :
    Calls Try.prog 31 #[v, .int .i64 k] w fun e w' => e = .returned (.int .i64 (m.cnt k)) ∧ AggO w' (cengine (m.mkd k)) F v ∧ Chg (fun g => g ∈ F) w w' := by
  obtain ⟨u1, u3, u4, u5, u6, F1, F3, F4, F5, F6, rfl, rfl, o1, o3, o4, o5, o6, d13, d14, d15, d16, d34, d35, d36, d45, d46, d56⟩ := cengine_oopen h
  have D13 := Lib.hid d13
  have D14 := Lib.hid d14
  have D15 := Lib.hid d15
  have D16 := Lib.hid d16
  have D34 := Lib.hid d34
  have D35 := Lib.hid d35
  have D36 := Lib.hid d36
  have D45 := Lib.hid d45
  have D46 := Lib.hid d46
  have D56 := Lib.hid d56
  have HF1 := Lib.hid (own_F1 o1)
  have HF3 := Lib.hid (own_F3 o3)
  have HF4 := Lib.hid (own_F1 o4)
  have V1 : Hid (∀ g ∈ [[], F1].flatten, g < w.heap.size) := Lib.hid (fun g hg => CS.lt _ o1 g (by simpa using hg))
  have V2 : Hid (∀ g ∈ [[], F3, F4].flatten, g < w.heap.size) := Lib.hid (fun g hg => by simp at hg; rcases hg with hg | hg; exact CS.lt _ o3 g hg; exact CS.lt _ o4 g hg)
  have V5 : Hid (∀ g ∈ F5, g < w.heap.size) := Lib.hid (CS.lt _ o5)
  have V6 : Hid (∀ g ∈ F6, g < w.heap.size) := Lib.hid (CS.lt _ o6)
  have k0 : m.k.cnt k = k + m.k.al.length := rfl
  have k1 : ∀ q, m.c.cnt q = q + 3 * m.c.st.length + m.c.outs.length := fun _ => rfl
  obtain ⟨hz1, hz2, hz3, hz4⟩ : m.k.al.length ≤ 1048576 ∧ m.c.st.length + m.c.outs.length ≤ 1048576 ∧ m.vs.length + auS m.vs m.vs.length ≤ 1048576 ∧ m.op.length ≤ 1048576 := hn
  have kb0 : 0 ≤ m.k.cnt k ∧ m.k.cnt k ≤ 1073741824 + 1048576 := by rw [k0]; omega
  have kb1 : 0 ≤ m.c.cnt (m.k.cnt k) ∧ m.c.cnt (m.k.cnt k) ≤ 1073741824 + 8388608 := by rw [k1, k0]; omega
  have HK0 := Lib.hid k0
  have HK1 := Lib.hid k1
  clear k0 k1
  obtain ⟨c0, hc0⟩ : ∃ x, m.k.cnt k = x := ⟨_, rfl⟩
  obtain ⟨c1, hc1⟩ : ∃ x, m.c.cnt (m.k.cnt k) = x := ⟨_, rfl⟩
  have HC0 := Lib.hid hc0
  have HC1 := Lib.hid (show m.c.cnt c0 = c1 by rw [← hc0]; exact hc1)
  rw [hc0] at kb0
  rw [hc1] at kb1
  clear hc0 hc1
  have G0 := Lib.hid (gbA (gbR w none) (.cells #[.int .i64 m.k.p, u1, .int .i64 m.c.p, u3, u4, u5, u6, .int .i64 m.rd, .bool m.bad] 36))
  have B0 := Lib.hid (Blk.new w 36 #[.int .i64 m.k.p, u1, .int .i64 m.c.p, u3, u4, u5, u6, .int .i64 m.rd, .bool m.bad])
  obtain ⟨x0, hx0⟩ : ∃ x : World, w.alloc (.cells #[.int .i64 m.k.p, u1, .int .i64 m.c.p, u3, u4, u5, u6, .int .i64 m.rd, .bool m.bad] 36) = x := ⟨_, rfl⟩
  rw [hx0] at G0 B0
  have M0 : Hid (Chg (fun g => g ∈ [[], F1, [], F3, F4, F5, F6, [], []].flatten) x0 x0) := Chg.refl _ _
  have PK := Lib.hid (AggO.grow (ckeys_omk o1) G0.out)
  have PA := Lib.hid (AggO.grow (carith_omk o3 o4 d34) G0.out)
  have P5 := Lib.hid (own_growK _ o5 G0.out)
  have P6 := Lib.hid (own_growK _ o6 G0.out)
  clear h o1 o3 o4 o5 o6 d13 d14 d15 d16 d34 d35 d36 d45 d46 d56
  go_enter Try.func31, Try.ntmps31
  have s0 := B0.out.cell 0
  have s1 := B0.out.cell 1
  simp only [List.getElem?_toArray, List.getElem?_cons_succ, List.getElem?_cons_zero] at s0 s1
  go_wp2_with fail
  clear s0 s1 hx0
  refine (markKeys_k m.k _ _ k _ PK.out (by unfold KM.sz; omega) (by omega) (by omega)).mono ?_
  rintro e' x1 ⟨rfl, oo, gg⟩
  rw [HC0.out]
  have NN := Lib.hid oo
  have EE := Lib.hid (AggO.chg PA.out gg (fun g hg hg' => by
    have q1 : g ∈ F3 ∨ g ∈ F4 := by simpa using hg
    have q2 : g ∈ F1 := by simpa using hg'
    rcases q1 with h1 | h1 <;> have h2 := q2 <;> first | exact D13.out g h2 h1 | exact D14.out g h2 h1))
  clear PA
  have PA := EE
  clear EE
  have EE := Lib.hid (own_chgK _ P5.out gg (fun g hg hg' => by
    have q1 : g ∈ F5 := by simpa using hg
    have q2 : g ∈ F1 := by simpa using hg'
    have h1 := q1
    have h2 := q2
    exact D15.out g h2 h1))
  clear P5
  have P5 := EE
  clear EE
  have EE := Lib.hid (own_chgK _ P6.out gg (fun g hg hg' => by
    have q1 : g ∈ F6 := by simpa using hg
    have q2 : g ∈ F1 := by simpa using hg'
    have h1 := q1
    have h2 := q2
    exact D16.out g h2 h1))
  clear P6
  have P6 := EE
  clear EE
  clear PK
  have PK := NN
  clear NN
  have B1 := Lib.hid (blk_chg B0.out gg (fun hg => by have := V1.out _ hg; omega))
  have M1 := Lib.hid (M0.out.trans (gg.mono (fun g hg => by simp at hg ⊢; exact .inl hg)))
  clear B0 M0 oo gg
  have B0 := B1
  have M0 := M1
  clear B1 M1
  have s2 := B0.out.cell 2
  have s3 := B0.out.cell 3
  have s4 := B0.out.cell 4
  simp only [List.getElem?_toArray, List.getElem?_cons_succ, List.getElem?_cons_zero] at s2 s3 s4
  go_wp2_with fail
  clear s2 s3 s4
  refine (markArith_k m.c _ _ c0 _ PA.out (by unfold AM.sz; omega) (by omega) (by omega)).mono ?_
  rintro e' x2 ⟨rfl, oo, gg⟩
  rw [HC1.out]
  have NN := Lib.hid oo
  have EE := Lib.hid (AggO.chg PK.out gg (fun g hg hg' => by
    have q1 : g ∈ F1 := by simpa using hg
    have q2 : g ∈ F3 ∨ g ∈ F4 := by simpa using hg'
    have h1 := q1 <;> rcases q2 with h2 | h2 <;> first | exact D13.out g h1 h2 | exact D14.out g h1 h2))
  clear PK
  have PK := EE
  clear EE
  have EE := Lib.hid (own_chgK _ P5.out gg (fun g hg hg' => by
    have q1 : g ∈ F5 := by simpa using hg
    have q2 : g ∈ F3 ∨ g ∈ F4 := by simpa using hg'
    have h1 := q1 <;> rcases q2 with h2 | h2 <;> first | exact D35.out g h2 h1 | exact D45.out g h2 h1))
  clear P5
  have P5 := EE
  clear EE
  have EE := Lib.hid (own_chgK _ P6.out gg (fun g hg hg' => by
    have q1 : g ∈ F6 := by simpa using hg
    have q2 : g ∈ F3 ∨ g ∈ F4 := by simpa using hg'
    have h1 := q1 <;> rcases q2 with h2 | h2 <;> first | exact D36.out g h2 h1 | exact D46.out g h2 h1))
  clear P6
  have P6 := EE
  clear EE
  clear PA
  have PA := NN
  clear NN
  have B1 := Lib.hid (blk_chg B0.out gg (fun hg => by have := V2.out _ hg; omega))
  have M1 := Lib.hid (M0.out.trans (gg.mono (fun g hg => by simp at hg ⊢; rcases hg with hg | hg <;> simp [hg])))
  clear B0 M0 oo gg
  have B0 := B1
  have M0 := M1
  clear B1 M1
  have s5 := B0.out.cell 5
  simp only [List.getElem?_toArray, List.getElem?_cons_succ, List.getElem?_cons_zero] at s5
  go_wp2_with fail
  clear s5
  refine (markAuthS_z m.vs _ F5 c1 _ P5.out (by unfold szA; omega) (by omega) (by omega)).mono ?_
  rintro e' x3 ⟨rfl, oo, gg⟩
  have NN := Lib.hid oo
  have EE := Lib.hid (AggO.chg PK.out gg (fun g hg hg' => by
    have q1 : g ∈ F1 := by simpa using hg
    have q2 : g ∈ F5 := by simpa using hg'
    have h1 := q1
    have h2 := q2
    exact D15.out g h1 h2))
  clear PK
  have PK := EE
  clear EE
  have EE := Lib.hid (AggO.chg PA.out gg (fun g hg hg' => by
    have q1 : g ∈ F3 ∨ g ∈ F4 := by simpa using hg
    have q2 : g ∈ F5 := by simpa using hg'
    rcases q1 with h1 | h1 <;> have h2 := q2 <;> first | exact D35.out g h1 h2 | exact D45.out g h1 h2))
  clear PA
  have PA := EE
  clear EE
  have EE := Lib.hid (own_chgK _ P6.out gg (fun g hg hg' => by
    have q1 : g ∈ F6 := by simpa using hg
    have q2 : g ∈ F5 := by simpa using hg'
    have h1 := q1
    have h2 := q2
    exact D56.out g h2 h1))
  clear P6
  have P6 := EE
  clear EE
  clear P5
  have P5 := NN
  clear NN
  have B1 := Lib.hid (blk_chg B0.out gg (fun hg => by have := V5.out _ hg; omega))
  have M1 := Lib.hid (M0.out.trans (gg.mono (fun g hg => by simp at hg ⊢; simp [hg])))
  clear B0 M0 oo gg
  have B0 := B1
  have M0 := M1
  clear B1 M1
  have s6 := B0.out.cell 6
  simp only [List.getElem?_toArray, List.getElem?_cons_succ, List.getElem?_cons_zero] at s6
  go_wp2_with fail
  clear s6
  refine (markIntS_k m.op _ F6 (c1 + (auS m.vs m.vs.length : Nat)) _ P6.out (by omega) (by omega) (by omega)).mono ?_
  rintro e' x4 ⟨rfl, oo, gg⟩
  have NN := Lib.hid oo
  have EE := Lib.hid (AggO.chg PK.out gg (fun g hg hg' => by
    have q1 : g ∈ F1 := by simpa using hg
    have q2 : g ∈ F6 := by simpa using hg'
    have h1 := q1
    have h2 := q2
    exact D16.out g h1 h2))
  clear PK
  have PK := EE
  clear EE
  have EE := Lib.hid (AggO.chg PA.out gg (fun g hg hg' => by
    have q1 : g ∈ F3 ∨ g ∈ F4 := by simpa using hg
    have q2 : g ∈ F6 := by simpa using hg'
    rcases q1 with h1 | h1 <;> have h2 := q2 <;> first | exact D36.out g h1 h2 | exact D46.out g h1 h2))
  clear PA
  have PA := EE
  clear EE
  have EE := Lib.hid (own_chgK _ P5.out gg (fun g hg hg' => by
    have q1 : g ∈ F5 := by simpa using hg
    have q2 : g ∈ F6 := by simpa using hg'
    have h1 := q1
    have h2 := q2
    exact D56.out g h1 h2))
  clear P5
  have P5 := EE
  clear EE
  clear P6
  have P6 := NN
  clear NN
  have B1 := Lib.hid (blk_chg B0.out gg (fun hg => by have := V6.out _ hg; omega))
  have M1 := Lib.hid (M0.out.trans (gg.mono (fun g hg => by simp at hg ⊢; simp [hg])))
  clear B0 M0 oo gg
  have B0 := B1
  have M0 := M1
  clear B1 M1
  go_wp2_with fail
  go_ret
  obtain ⟨t1, G1', e1, _, r1⟩ := ckeys_oopen PK.out
  injection e1 with e1
  injection e1 with e1
  injection e1 with _ e1
  injection e1 with e1 _
  subst e1
  have hG1 := own_F1 r1
  obtain ⟨t3, t4, G3', G4', e2, _, r3, r4, _⟩ := carith_oopen PA.out
  injection e2 with e2
  injection e2 with e2
  injection e2 with _ e2
  injection e2 with e3 e2
  injection e2 with e4 _
  subst e3; subst e4
  have hG3 := own_F3 r3
  have hG4 := own_F1 r4
  rw [hG1, ← HF1.out] at r1
  rw [hG3, ← HF3.out] at r3
  rw [hG4, ← HF4.out] at r4
  have hM := M0.out
  have r5 := P5.out
  have r6 := P6.out
  rw [← HC1.out, ← HC0.out] at r5 r6
  rw [← HC0.out] at r3 r4
  refine ⟨retI (by rw [← HC1.out, ← HC0.out]; rfl), cengine_omk (m := m.mkd k) r1 r3 r4 r5 r6 D13.out D14.out D15.out D16.out D34.out D35.out D36.out D45.out D46.out D56.out, ⟨hM.os.trans G0.out.os, hM.tape.trans G0.out.tape, hM.output.trans G0.out.output, Nat.le_trans G0.out.size hM.size, fun i hi hs => (hM.block i (Nat.lt_of_lt_of_le hi G0.out.size) hs).trans (G0.out.block i hi (by simp))⟩⟩
set_option maxHeartbeats 4000000 in
set_option maxRecDepth 100000 in
theorem heldEngine_p (m : EM) (v : Value) (k : Int) (w : World) (h : AggR w (cengine (m.mkd k)) v) (hn : m.prt) (h0 : 0 ≤ k) (h1 : k ≤ 1073741824) :
    Calls Try.prog 44 #[v, .int .i64 k] w fun e w' => e = .returned (.int .i64 (m.cnt k)) ∧ w.grownBy w' none := by
  obtain ⟨A, B, C, D, E, a, b, c, d, e, rfl, hR⟩ := cengine_open h
  have k0 : m.k.cnt k = k + m.k.al.length := rfl
  have k1 : ∀ q, m.c.cnt q = q + 3 * m.c.st.length + m.c.outs.length := fun _ => rfl
  obtain ⟨hz1, hz2, hz3, hz4⟩ : m.k.al.length ≤ 1048576 ∧ m.c.st.length + m.c.outs.length ≤ 1048576 ∧ m.vs.length + auS m.vs m.vs.length ≤ 1048576 ∧ m.op.length ≤ 1048576 := hn
  have kb0 : 0 ≤ m.k.cnt k ∧ m.k.cnt k ≤ 1073741824 + 1048576 := by rw [k0]; omega
  have kb1 : 0 ≤ m.c.cnt (m.k.cnt k) ∧ m.c.cnt (m.k.cnt k) ≤ 1073741824 + 8388608 := by rw [k1, k0]; omega
  clear k0 k1
  have HF : Hid (m.mkd k = ⟨m.k.mkd k, m.c.mkd (m.k.cnt k), mkAS (m.c.cnt (m.k.cnt k)) m.vs, marks (m.c.cnt (m.k.cnt k) + (auS m.vs m.vs.length : Nat)) m.op.length, m.rd, m.bad⟩) := rfl
  obtain ⟨M, hM⟩ : ∃ x, m.mkd k = x := ⟨_, rfl⟩
  have HCN : Hid (m.cnt k = m.c.cnt (m.k.cnt k) + (auS m.vs m.vs.length : Nat) + m.op.length) := rfl
  rw [hM] at hR ⊢ HF
  have RK : Hid (M.k = m.k.mkd k) := by rw [HF.out]; exact Lib.hid rfl
  have RA : Hid (M.c = m.c.mkd (m.k.cnt k)) := by rw [HF.out]; exact Lib.hid rfl
  have RV : Hid (M.vs = mkAS (m.c.cnt (m.k.cnt k)) m.vs) := by rw [HF.out]; exact Lib.hid rfl
  have RO : Hid (M.op = marks (m.c.cnt (m.k.cnt k) + (auS m.vs m.vs.length : Nat)) m.op.length) := by rw [HF.out]; exact Lib.hid rfl
  obtain ⟨c0, hc0⟩ : ∃ x, m.k.cnt k = x := ⟨_, rfl⟩
  obtain ⟨c1, hc1⟩ : ∃ x, m.c.cnt c0 = x := ⟨_, rfl⟩
  rw [hc0] at kb0 kb1 RA RV RO HCN
  rw [hc1] at kb1 RV RO HCN
  have HC0 := Lib.hid hc0
  have HC1 := Lib.hid hc1
  clear hc0 hc1 hM HF
  obtain ⟨x0, hx0⟩ : ∃ x : World, w.alloc (.cells #[.int .i64 M.k.p, .slice A M.k.al.length a, .int .i64 M.c.p, .slice B M.c.st.length b, .slice C M.c.outs.length c, .slice D M.vs.length d, .slice E M.op.length e, .int .i64 M.rd, .bool M.bad] 36) = x := ⟨_, rfl⟩
  have GG : Hid (w.grownBy x0 none) := by rw [← hx0]; exact gbA (gbR _ _) _
  have S0 : Hid (Blk x0 w.heap.size 36 #[.int .i64 M.k.p, .slice A M.k.al.length a, .int .i64 M.c.p, .slice B M.c.st.length b, .slice C M.c.outs.length c, .slice D M.vs.length d, .slice E M.op.length e, .int .i64 M.rd, .bool M.bad]) := by rw [← hx0]; exact Blk.new w _ _
  have RR := Lib.hid hR
  clear h hR
  go_enter Try.func44, Try.ntmps44
  have s0 := S0.out.cell 0
  have s1 := S0.out.cell 1
  simp only [List.getElem?_toArray, List.getElem?_cons_succ, List.getElem?_cons_zero] at s0 s1
  go_wp2_with fail
  clear s0 s1 hx0
  refine (heldKeys_k m.k _ k _ (by rw [← RK.out]; exact (RR.out.grow GG.out).ky) (by unfold KM.sz; omega) (by omega) (by omega)).mono ?_
  rintro e' x1 ⟨rfl, gg⟩
  rw [HC0.out]
  have S1 := Lib.hid (S0.out.grow gg)
  have G1 := Lib.hid (gbT GG.out gg)
  clear S0 GG gg
  have S0 := S1
  have GG := G1
  clear S1 G1
  have n0 : ¬ c0 < 0 := by omega
  have s2 := S0.out.cell 2
  have s3 := S0.out.cell 3
  have s4 := S0.out.cell 4
  simp only [List.getElem?_toArray, List.getElem?_cons_succ, List.getElem?_cons_zero] at s2 s3 s4
  go_wp2_with fail
  clear s2 s3 s4
  refine (heldArith_k m.c _ c0 _ (by rw [← RA.out]; exact (RR.out.grow GG.out).ar) (by unfold AM.sz; omega) (by omega) (by omega)).mono ?_
  rintro e' x2 ⟨rfl, gg⟩
  rw [HC1.out]
  have S1 := Lib.hid (S0.out.grow gg)
  have G1 := Lib.hid (gbT GG.out gg)
  clear S0 GG gg
  have S0 := S1
  have GG := G1
  clear S1 G1
  have n1 : ¬ c1 < 0 := by omega
  have s5 := S0.out.cell 5
  simp only [List.getElem?_toArray, List.getElem?_cons_succ, List.getElem?_cons_zero] at s5
  go_wp2_with fail
  clear s5
  refine (heldAuthS_z m.vs _ c1 _ (by rw [← RV.out]; exact (RR.out.grow GG.out).va) (by unfold szA; omega) (by omega) (by omega)).mono ?_
  rintro e' x3 ⟨rfl, gg⟩
  have S1 := Lib.hid (S0.out.grow gg)
  have G1 := Lib.hid (gbT GG.out gg)
  clear S0 GG gg
  have S0 := S1
  have GG := G1
  clear S1 G1
  have n2 : ¬ c1 + ((auS m.vs m.vs.length : Nat) : Int) < 0 := by omega
  have s6 := S0.out.cell 6
  simp only [List.getElem?_toArray, List.getElem?_cons_succ, List.getElem?_cons_zero] at s6
  go_wp2_with fail
  clear s6
  refine (heldIntS_k m.op.length _ (c1 + (auS m.vs m.vs.length : Nat)) _ (by rw [← RO.out]; exact (RR.out.grow GG.out).opn) (by omega) (by omega) (by omega)).mono ?_
  rintro e' x4 ⟨rfl, gg⟩
  have S1 := Lib.hid (S0.out.grow gg)
  have G1 := Lib.hid (gbT GG.out gg)
  clear S0 GG gg
  have S0 := S1
  have GG := G1
  clear S1 G1
  have n3 : ¬ c1 + ((auS m.vs m.vs.length : Nat) : Int) + (m.op.length : Int) < 0 := by omega
  go_wp2_with fail
  go_ret
  exact ⟨retI (by rw [HCN.out]), GG.out⟩
end Go.Proofs.Ythaadgdeadbhkaa
