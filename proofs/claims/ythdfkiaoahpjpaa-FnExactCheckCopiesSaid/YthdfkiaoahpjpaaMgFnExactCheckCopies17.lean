/-
  The laws' helpers on Circuit, by what it reads as (printed by wip/gen_sk.py).
-/
import Derived.Test.YthdfkiaoahpjpaaMgFnExactCheckCopies11
namespace Go.Proofs.Ythdfkiaoahpjpaa
open Go.RowKit
set_option linter.unusedVariables false
set_option linter.unusedSimpArgs false
structure CM where
  gt : List (Int × Int × Int)
  outs : List Int
abbrev ccircuit (m : CM) : List CS := [cgates m.gt, cints m.outs]
def CM.sz (m : CM) : Nat := m.gt.length + m.outs.length
def CM.cnt (k : Int) (m : CM) : Int := k + 3 * m.gt.length + m.outs.length
def CM.wf (m : CM) : Prop := (∀ z ∈ m.gt, w3 z) ∧ (∀ z ∈ m.outs, i64w z)
theorem stCircuit : St Try.prog 28 2 := ⟨⟨_, Try.underlying28, rfl⟩, by kernel_rfl⟩
theorem ccircuit_open {w : World} {m : CM} {v : Value} (h : AggR w (ccircuit m) v) : ∃ u0 u1, v = .agg #[u0, u1] ∧ (cgates m.gt).rd w u0 ∧ (cints m.outs).rd w u1 := by
  obtain ⟨vs, rfl, h⟩ := h
  obtain ⟨u0, vs0, rfl, h0, h⟩ := RdAll.head h
  obtain ⟨u1, vs1, rfl, h1, h⟩ := RdAll.head h
  obtain rfl := RdAll.none h
  exact ⟨u0, u1, rfl, h0, h1⟩
theorem ccircuit_mk {w : World} {m : CM} {u0 u1 : Value} (h0 : (cgates m.gt).rd w u0) (h1 : (cints m.outs).rd w u1) : AggR w (ccircuit m) (.agg #[u0, u1]) := ⟨_, rfl, (RdAll.cons h0 (RdAll.cons h1 (RdAll.nil _)))⟩
theorem ccircuit_oform {w : World} {m : CM} {F : List Nat} {v : Value} (h : AggO w (ccircuit m) F v) : ∃ (A0 : Option Addr) (n0 s0 : Nat) (A1 : Option Addr) (n1 s1 : Nat), v = .agg #[(.slice A0 n0 s0), (.slice A1 n1 s1)] := by
  obtain ⟨vs, Fs, rfl, h, rfl⟩ := h
  obtain ⟨u0, vs0, F0, Fs0, rfl, rfl, h0, h, d0⟩ := OwnAll.head h
  obtain ⟨u1, vs1, F1, Fs1, rfl, rfl, h1, h, d1⟩ := OwnAll.head h
  obtain ⟨rfl, rfl⟩ := OwnAll.none h
  obtain ⟨A0, n0, s0, rfl⟩ := row_form h0
  obtain ⟨A1, n1, s1, rfl⟩ := row_form h1
  exact ⟨A0, n0, s0, A1, n1, s1, rfl⟩
theorem ccircuit_oopen {w : World} {m : CM} {F : List Nat} {v : Value} (h : AggO w (ccircuit m) F v) : ∃ u0 u1 F0 F1, v = .agg #[u0, u1] ∧ F = [F0, F1].flatten ∧ (cgates m.gt).own w F0 u0 ∧ (cints m.outs).own w F1 u1 ∧ (∀ g ∈ F0, g ∉ F1) := by
  obtain ⟨vs, Fs, rfl, h, rfl⟩ := h
  obtain ⟨u0, vs0, F0, Fs0, rfl, rfl, h0, h, d0⟩ := OwnAll.head h
  obtain ⟨u1, vs1, F1, Fs1, rfl, rfl, h1, h, d1⟩ := OwnAll.head h
  obtain ⟨rfl, rfl⟩ := OwnAll.none h
  exact ⟨u0, u1, F0, F1, rfl, rfl, h0, h1, fun g hg hg' => d0 g hg (by simp [hg'])⟩
theorem ccircuit_omk {w : World} {m : CM} {u0 u1 : Value} {F0 F1 : List Nat} (h0 : (cgates m.gt).own w F0 u0) (h1 : (cints m.outs).own w F1 u1) (d01 : ∀ g ∈ F0, g ∉ F1) : AggO w (ccircuit m) [F0, F1].flatten (.agg #[u0, u1]) := ⟨_, _, rfl, (OwnAll.cons h0 (OwnAll.cons h1 (OwnAll.nil _) (fun g hg => by simp)) (fun g hg => by simp [d01 g hg])), rfl⟩
set_option maxHeartbeats 1000000 in
theorem toCircuit_k (m : CM) (v : Value) (w : World) (h : AggR w (ccircuit m) v) (hn : m.sz ≤ 1048576) :
    Calls Try.prog 28 #[v] w fun e w' => ∃ u F, e = .returned u ∧ AggO w' (ccircuit m) F u ∧ (∀ g ∈ F, w.heap.size ≤ g) ∧ w.grownBy w' none := by
  obtain ⟨u0, u1, rfl, h0, h1⟩ := ccircuit_open h
  have HN := Lib.hid hn
  have H0 := Lib.hid h0
  have H1 := Lib.hid h1
  clear h hn h0 h1
  go_enter Try.func28, Try.ntmps28
  go_wp2_with fail
  obtain ⟨x0, e0⟩ : ∃ x : World, x = ((w.alloc (.cells #[u0, u1] 44)).alloc (.cells #[(.slice none 0 0), (.slice none 0 0)] 28)).alloc (.cells #[(.slice none 0 0), (.slice none 0 0)] 28) := ⟨_, rfl⟩
  have A1 : Hid (Blk x0 w.heap.size 44 #[u0, u1]) := by rw [e0]; exact ((Blk.new w _ _).grow (gbA (gbR _ _) _)).grow (gbA (gbR _ _) _)
  have A2 : Hid (Blk x0 (w.heap.size + 1) 28 #[(.slice none 0 0), (.slice none 0 0)]) := by rw [e0]; exact (Blk.new' _ _ _ _ (by simp)).grow (gbA (gbR _ _) _)
  have A3 : Hid (Blk x0 (w.heap.size + 1 + 1) 28 #[(.slice none 0 0), (.slice none 0 0)]) := by rw [e0]; exact Blk.new' _ _ _ _ (by simp)
  have G0 : Hid (w.grownBy x0 none) := by rw [e0]; exact gbA (gbA (gbA (gbR _ _) _) _) _
  have Z0 : x0.heap.size = w.heap.size + 1 + 1 + 1 := by rw [e0]; simp
  try rw [← e0]
  clear e0
  have R := CS.grow _ H0.out G0.out
  refine (toGateS_k m.gt u0 _ R (by have := HN.out; unfold CM.sz at this; omega)).mono ?_
  rintro e x1 ⟨v0, F0, rfl, o0, l0, g0⟩
  obtain ⟨B0, n0, s0, rfl⟩ := row_form o0
  have Z1 := g0.size
  try simp at Z1
  have L0 : Hid (∀ g ∈ F0, x0.heap.size ≤ g) := fun g hg => by have := l0 g hg; simpa using this
  have O0 := Lib.hid o0
  have Q0 : Hid (∀ g ∈ F0, g < x1.heap.size) := fun g hg => CS.lt _ o0 g hg
  have E1 := Lib.hid (Blk.grow (A1.out) g0)
  have E2 := Lib.hid (Blk.grow (A2.out) g0)
  have E3 := Lib.hid (Blk.grow (A3.out) g0)
  have G1 := Lib.hid (gbT (G0.out) g0)
  clear R l0 g0 o0 A1 A2 A3 G0
  have A1 := E1
  have A2 := E2
  have A3 := E3
  clear E1 E2 E3
  have K1 := Lib.hid ((A1.out).far (p := ⟨w.heap.size + 1 + 1, 0, none⟩) (by first | (simp; done) | (simp; omega)) (.slice B0 n0 s0))
  have K2 := Lib.hid ((A2.out).far (p := ⟨w.heap.size + 1 + 1, 0, none⟩) (by first | (simp; done) | (simp; omega)) (.slice B0 n0 s0))
  have K3 := Lib.hid ((A3.out).set_ 0 (.slice B0 n0 s0))
  have KG := Lib.hid (gbS (G1.out) (p := ⟨w.heap.size + 1 + 1, 0, none⟩) (by simp; omega) (.slice B0 n0 s0))
  have P0 := Lib.hid (own_setK _ (O0.out) ⟨w.heap.size + 1 + 1, 0, none⟩ (fun hg => by have := L0.out _ hg; simp at this; omega) (.slice B0 n0 s0))
  clear O0
  have c0 := A1.out.cell 0
  have c1 := A1.out.cell 1
  have d0 := A3.out.cell 0
  have f0 := A3.out.frozen 0
  have d1 := A3.out.cell 1
  have f1 := A3.out.frozen 1
  simp at c0 c1 d0 d1
  clear A1 A2 A3 G1
  go_wp2_with fail
  have R := CS.grow _ H1.out KG.out
  refine (toIntS_k m.outs u1 _ R (by have := HN.out; unfold CM.sz at this; omega)).mono ?_
  rintro e x2 ⟨v1, F1, rfl, o1, l1, g1⟩
  obtain ⟨B1, n1, s1, rfl⟩ := row_form o1
  have Z2 := g1.size
  try simp at Z2
  have L1 : Hid (∀ g ∈ F1, x1.heap.size ≤ g) := fun g hg => by have := l1 g hg; simpa using this
  have O1 := Lib.hid o1
  have Q1 : Hid (∀ g ∈ F1, g < x2.heap.size) := fun g hg => CS.lt _ o1 g hg
  have N0 := Lib.hid (own_growK _ P0.out g1)
  clear P0
  have O0 := N0
  clear N0
  have E1 := Lib.hid (Blk.grow (K1.out) g1)
  have E2 := Lib.hid (Blk.grow (K2.out) g1)
  have E3 := Lib.hid (Blk.grow (K3.out) g1)
  have G2 := Lib.hid (gbT (KG.out) g1)
  clear R l1 g1 o1 K1 K2 K3 KG c0 c1 d0 d1 f0 f1
  have A1 := E1
  have A2 := E2
  have A3 := E3
  clear E1 E2 E3
  have K2 := Lib.hid ((((A2.out).far (p := ⟨w.heap.size + 1 + 1, 1, none⟩) (by first | (simp; done) | (simp; omega)) (.slice B1 n1 s1)).set_ 0 (.slice B0 n0 s0)).set_ 1 (.slice B1 n1 s1))
  have KG := Lib.hid (gbS (gbS (gbS (G2.out) (p := ⟨w.heap.size + 1 + 1, 1, none⟩) (by simp; omega) (.slice B1 n1 s1)) (p := ⟨w.heap.size + 1, 0, none⟩) (by simp) (.slice B0 n0 s0)) (p := ⟨w.heap.size + 1, 1, none⟩) (by simp) (.slice B1 n1 s1))
  have P0 := Lib.hid (own_setK _ (own_setK _ (own_setK _ (O0.out) ⟨w.heap.size + 1 + 1, 1, none⟩ (fun hg => by have := L0.out _ hg; simp at this; omega) (.slice B1 n1 s1)) ⟨w.heap.size + 1, 0, none⟩ (fun hg => by have := L0.out _ hg; simp at this; omega) (.slice B0 n0 s0)) ⟨w.heap.size + 1, 1, none⟩ (fun hg => by have := L0.out _ hg; simp at this; omega) (.slice B1 n1 s1))
  have P1 := Lib.hid (own_setK _ (own_setK _ (own_setK _ (O1.out) ⟨w.heap.size + 1 + 1, 1, none⟩ (fun hg => by have := L1.out _ hg; simp at this; omega) (.slice B1 n1 s1)) ⟨w.heap.size + 1, 0, none⟩ (fun hg => by have := L1.out _ hg; simp at this; omega) (.slice B0 n0 s0)) ⟨w.heap.size + 1, 1, none⟩ (fun hg => by have := L1.out _ hg; simp at this; omega) (.slice B1 n1 s1))
  have D01 : Hid (∀ g ∈ F0, g ∉ F1) := fun g h1 h2 => by have h3 := L1.out g h2; have h4 := Q0.out g h1; omega
  have d := A3.out
  have d0 := A3.out.cell 0
  have f0 := A3.out.frozen 0
  have b0 := A2.out.cell 0
  have t0 := A2.out.frozen 0
  have d1 := A3.out.cell 1
  have f1 := A3.out.frozen 1
  have b1 := A2.out.cell 1
  have t1 := A2.out.frozen 1
  clear d
  simp at d0 d1 b0 b1
  clear A1 A2 A3 G2
  go_wp2_with fail
  refine ret_c Try.results28 (by rfl) stCircuit (cs := #[(.slice B0 n0 s0), (.slice B1 n1 s1)]) ?B (by rfl) (by rfl) ?_
  case B => exact K2.out
  refine ⟨_, _, rfl, ccircuit_omk P0.out P1.out D01.out, fun g hg => ?_, KG.out⟩
  simp at hg
  rcases hg with hg | hg
  · have := L0.out g hg; omega
  · have := L1.out g hg; omega
set_option maxHeartbeats 1000000 in
theorem eqCircuit_k (m : CM) (v u : Value) (w : World) (h : AggR w (ccircuit m) v) (k : AggR w (ccircuit m) u) (hn : m.sz ≤ 1048576) :
    Calls Try.prog 32 #[v, u] w fun e w' => e = .returned (.bool true) ∧ w.grownBy w' none := by
  obtain ⟨u0, u1, rfl, h0, h1⟩ := ccircuit_open h
  obtain ⟨t0, t1, rfl, k0, k1⟩ := ccircuit_open k
  have HN := Lib.hid hn
  have H0 := Lib.hid h0
  have K0 := Lib.hid k0
  have H1 := Lib.hid h1
  have K1 := Lib.hid k1
  clear h k hn h0 h1 k0 k1
  go_enter Try.func32, Try.ntmps32
  have A1 : Hid (Blk ((w.alloc (.cells #[u0, u1] 28)).alloc (.cells #[t0, t1] 28)) w.heap.size 28 #[u0, u1]) := (Blk.new w _ _).grow (gbA (gbR _ _) _)
  have A2 : Hid (Blk ((w.alloc (.cells #[u0, u1] 28)).alloc (.cells #[t0, t1] 28)) (w.heap.size + 1) 28 #[t0, t1]) := Blk.new' _ _ _ _ (by simp)
  have G0 : Hid (w.grownBy ((w.alloc (.cells #[u0, u1] 28)).alloc (.cells #[t0, t1] 28)) none) := gbA (gbA (gbR _ _) _) _
  go_wp2_with fail
  refine (eqGateS_k m.gt u0 t0 _ (CS.grow _ H0.out G0.out) (CS.grow _ K0.out G0.out) (by have := HN.out; unfold CM.sz at this; omega)).mono ?_
  rintro e x1 ⟨rfl, g0⟩
  have G1 := Lib.hid (gbT G0.out g0)
  have E1 := Lib.hid (Blk.grow A1.out g0)
  have E2 := Lib.hid (Blk.grow A2.out g0)
  clear A1 A2 g0
  have A1 := E1
  have A2 := E2
  clear E1 E2
  have c1 := A1.out.cell 1
  have d1 := A2.out.cell 1
  simp at c1 d1
  go_wp2_with fail
  clear c1 d1
  refine (eqIntS_k m.outs u1 t1 _ (CS.grow _ H1.out G1.out) (CS.grow _ K1.out G1.out) (by have := HN.out; unfold CM.sz at this; omega)).mono ?_
  rintro e x2 ⟨rfl, g1⟩
  have G2 := Lib.hid (gbT G1.out g1)
  have E1 := Lib.hid (Blk.grow A1.out g1)
  have E2 := Lib.hid (Blk.grow A2.out g1)
  clear A1 A2 g1
  have A1 := E1
  have A2 := E2
  clear E1 E2
  go_wp2_with fail
  go_ret
  exact ⟨rfl, G2.out⟩
set_option maxHeartbeats 1000000 in
theorem szCircuit_k (m : CM) (v : Value) (l : Nat) (w : World) (h : AggR w (ccircuit m) v) (hl : l ≤ 1048576) :
    Calls Try.prog 26 #[v, .int .i64 l] w fun e w' => e = .returned (.int .i64 (szO l m.sz)) ∧ w.grownBy w' none := by
  obtain ⟨u0, u1, rfl, h0, h1⟩ := ccircuit_open h
  have H0 := Lib.hid h0
  have H1 := Lib.hid h1
  clear h h0 h1
  have A0 := Lib.hid (Blk.new w 44 #[u0, u1])
  have G0 := Lib.hid (gbA (gbR w none) (.cells #[u0, u1] 44))
  by_cases b0 : m.gt.length ≤ l
  · have C0 := Lib.hid (szO_yes b0)
    have Y0 := Lib.hid b0
    clear b0
    by_cases b1 : m.outs.length ≤ l - m.gt.length
    · have C1 := Lib.hid (szO_yes b1)
      have Y1 := Lib.hid b1
      clear b1
      go_enter Try.func26, Try.ntmps26
      go_wp2_with fail
      refine (szGateS_k m.gt u0 (l) _ (CS.grow _ H0.out G0.out) (by omega)).mono ?_
      rintro e x1 ⟨rfl, g0⟩
      rw [C0.out]
      have G1 := Lib.hid (gbT G0.out g0)
      have A1 := Lib.hid (Blk.grow A0.out g0)
      have c1 := A1.out.cell 1
      simp at c1
      have s0 : ¬ ((l - m.gt.length : Nat) : Int) < 0 := by omega
      clear g0
      go_wp2_with fail
      refine (szIntS_k m.outs u1 (l - m.gt.length) _ (CS.grow _ H1.out G1.out) (by omega)).mono ?_
      rintro e x2 ⟨rfl, g1⟩
      rw [C1.out]
      have G2 := Lib.hid (gbT G1.out g1)
      have A2 := Lib.hid (Blk.grow A1.out g1)
      have s1 : ¬ ((l - m.gt.length - m.outs.length : Nat) : Int) < 0 := by omega
      clear g1
      go_wp2_with fail
      go_ret
      exact ⟨retI (by have := Y0.out; have := Y1.out; rw [szO_yes (by unfold CM.sz; omega)]; unfold CM.sz; omega), G2.out⟩
    · have C1 := Lib.hid (szO_no (Nat.lt_of_not_le b1))
      have N1 := Lib.hid b1
      clear b1
      go_enter Try.func26, Try.ntmps26
      go_wp2_with fail
      refine (szGateS_k m.gt u0 (l) _ (CS.grow _ H0.out G0.out) (by omega)).mono ?_
      rintro e x1 ⟨rfl, g0⟩
      rw [C0.out]
      have G1 := Lib.hid (gbT G0.out g0)
      have A1 := Lib.hid (Blk.grow A0.out g0)
      have c1 := A1.out.cell 1
      simp at c1
      have s0 : ¬ ((l - m.gt.length : Nat) : Int) < 0 := by omega
      clear g0
      go_wp2_with fail
      refine (szIntS_k m.outs u1 (l - m.gt.length) _ (CS.grow _ H1.out G1.out) (by omega)).mono ?_
      rintro e x2 ⟨rfl, g1⟩
      rw [C1.out]
      have G2 := Lib.hid (gbT G1.out g1)
      have A2 := Lib.hid (Blk.grow A1.out g1)
      clear g1
      go_wp2_with fail
      go_ret
      exact ⟨retI (by rw [szO_no]; have := N1.out; have := Y0.out; unfold CM.sz; omega), G2.out⟩
  · have C0 := Lib.hid (szO_no (Nat.lt_of_not_le b0))
    have N0 := Lib.hid b0
    clear b0
    go_enter Try.func26, Try.ntmps26
    go_wp2_with fail
    refine (szGateS_k m.gt u0 (l) _ (CS.grow _ H0.out G0.out) (by omega)).mono ?_
    rintro e x1 ⟨rfl, g0⟩
    rw [C0.out]
    have G1 := Lib.hid (gbT G0.out g0)
    have A1 := Lib.hid (Blk.grow A0.out g0)
    clear g0
    go_wp2_with fail
    go_ret
    exact ⟨retI (by rw [szO_no]; have := N0.out; unfold CM.sz; omega), G1.out⟩
end Go.Proofs.Ythdfkiaoahpjpaa
