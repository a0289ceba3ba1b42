/-
  The laws' helpers on Public, by what it reads as (printed by wip/gen_sk.py).
-/
import Derived.Test.YthdfkiaoahpjpaaMgFnExactCheckCopies11
namespace Go.Proofs.Ythdfkiaoahpjpaa
open Go.RowKit
set_option linter.unusedVariables false
set_option linter.unusedSimpArgs false
structure PbM where
  ts : List Int
  cs : List Int
  ds : List Int
abbrev cpublic (m : PbM) : List CS := [cints m.ts, cints m.cs, cints m.ds]
def PbM.sz (m : PbM) : Nat := m.ts.length + m.cs.length + m.ds.length
def PbM.fit (m : PbM) : Prop := m.ts.length ≤ 1048576 ∧ m.cs.length ≤ 1048576 ∧ m.ds.length ≤ 1048576
theorem PbM.sz_fit {m : PbM} (h : m.sz ≤ 1048576) : m.fit := by
  unfold PbM.sz at h
  exact ⟨by omega, by omega, by omega⟩
def PbM.cnt (k : Int) (m : PbM) : Int := k + m.ts.length + m.cs.length + m.ds.length
def PbM.wf (m : PbM) : Prop := (∀ z ∈ m.ts, i64w z) ∧ (∀ z ∈ m.cs, i64w z) ∧ (∀ z ∈ m.ds, i64w z)
theorem stPublicK : St Try.prog 70 3 := ⟨⟨_, Try.underlying70, rfl⟩, by kernel_rfl⟩
theorem cpublic_open {w : World} {m : PbM} {v : Value} (h : AggR w (cpublic m) v) : ∃ u0 u1 u2, v = .agg #[u0, u1, u2] ∧ (cints m.ts).rd w u0 ∧ (cints m.cs).rd w u1 ∧ (cints m.ds).rd w u2 := by
  obtain ⟨vs, rfl, h⟩ := h
  obtain ⟨u0, vs0, rfl, h0, h⟩ := RdAll.head h
  obtain ⟨u1, vs1, rfl, h1, h⟩ := RdAll.head h
  obtain ⟨u2, vs2, rfl, h2, h⟩ := RdAll.head h
  obtain rfl := RdAll.none h
  exact ⟨u0, u1, u2, rfl, h0, h1, h2⟩
theorem cpublic_omk {w : World} {m : PbM} {u0 u1 u2 : Value} {F0 F1 F2 : List Nat} (h0 : (cints m.ts).own w F0 u0) (h1 : (cints m.cs).own w F1 u1) (h2 : (cints m.ds).own w F2 u2) (d01 : ∀ g ∈ F0, g ∉ F1) (d02 : ∀ g ∈ F0, g ∉ F2) (d12 : ∀ g ∈ F1, g ∉ F2) : AggO w (cpublic m) [F0, F1, F2].flatten (.agg #[u0, u1, u2]) := ⟨_, _, rfl, (OwnAll.cons h0 (OwnAll.cons h1 (OwnAll.cons h2 (OwnAll.nil _) (fun g hg => by simp)) (fun g hg => by simp [d12 g hg])) (fun g hg => by simp [d01 g hg, d02 g hg])), rfl⟩
set_option maxHeartbeats 1000000 in
theorem toPublic_k (m : PbM) (v : Value) (w : World) (h : AggR w (cpublic m) v) (hn : m.fit) :
    Calls Try.prog 84 #[v] w fun e w' => ∃ u F, e = .returned u ∧ AggO w' (cpublic m) F u ∧ (∀ g ∈ F, w.heap.size ≤ g) ∧ w.grownBy w' none := by
  obtain ⟨u0, u1, u2, rfl, h0, h1, h2⟩ := cpublic_open h
  have HN := Lib.hid hn
  have H0 := Lib.hid h0
  have H1 := Lib.hid h1
  have H2 := Lib.hid h2
  clear h hn h0 h1 h2
  go_enter Try.func84, Try.ntmps84
  go_wp2_with fail
  obtain ⟨x0, e0⟩ : ∃ x : World, x = ((w.alloc (.cells #[u0, u1, u2] 109)).alloc (.cells #[(.slice none 0 0), (.slice none 0 0), (.slice none 0 0)] 70)).alloc (.cells #[(.slice none 0 0), (.slice none 0 0), (.slice none 0 0)] 70) := ⟨_, rfl⟩
  have A1 : Hid (Blk x0 w.heap.size 109 #[u0, u1, u2]) := by rw [e0]; exact ((Blk.new w _ _).grow (gbA (gbR _ _) _)).grow (gbA (gbR _ _) _)
  have A2 : Hid (Blk x0 (w.heap.size + 1) 70 #[(.slice none 0 0), (.slice none 0 0), (.slice none 0 0)]) := by rw [e0]; exact (Blk.new' _ _ _ _ (by simp)).grow (gbA (gbR _ _) _)
  have A3 : Hid (Blk x0 (w.heap.size + 1 + 1) 70 #[(.slice none 0 0), (.slice none 0 0), (.slice none 0 0)]) := by rw [e0]; exact Blk.new' _ _ _ _ (by simp)
  have G0 : Hid (w.grownBy x0 none) := by rw [e0]; exact gbA (gbA (gbA (gbR _ _) _) _) _
  have Z0 : x0.heap.size = w.heap.size + 1 + 1 + 1 := by rw [e0]; simp
  try rw [← e0]
  clear e0
  have R := CS.grow _ H0.out G0.out
  refine (toIntS_k m.ts u0 _ R (by have := HN.out; unfold PbM.fit at this; omega)).mono ?_
  rintro e x1 ⟨v0, F0, rfl, o0, l0, g0⟩
  obtain ⟨B0, n0, s0, rfl⟩ := row_form o0
  have Z1 := g0.size
  try simp at Z1
  have L0 : Hid (∀ g ∈ F0, x0.heap.size ≤ g) := fun g hg => by have := l0 g hg; simpa using this
  have O0 := Lib.hid o0
  have Q0 : Hid (∀ g ∈ F0, g < x1.heap.size) := fun g hg => CS.lt _ o0 g hg
  have E1 := Lib.hid (Blk.grow (A1.out) g0)
  have E2 := Lib.hid (Blk.grow (A2.out) g0)
  have E3 := Lib.hid (Blk.grow (A3.out) g0)
  have G1 := Lib.hid (gbT (G0.out) g0)
  clear R l0 g0 o0 A1 A2 A3 G0
  have A1 := E1
  have A2 := E2
  have A3 := E3
  clear E1 E2 E3
  have K1 := Lib.hid ((A1.out).far (p := ⟨w.heap.size + 1 + 1, 0, none⟩) (by first | (simp; done) | (simp; omega)) (.slice B0 n0 s0))
  have K2 := Lib.hid ((A2.out).far (p := ⟨w.heap.size + 1 + 1, 0, none⟩) (by first | (simp; done) | (simp; omega)) (.slice B0 n0 s0))
  have K3 := Lib.hid ((A3.out).set_ 0 (.slice B0 n0 s0))
  have KG := Lib.hid (gbS (G1.out) (p := ⟨w.heap.size + 1 + 1, 0, none⟩) (by simp; omega) (.slice B0 n0 s0))
  have P0 := Lib.hid (own_setK _ (O0.out) ⟨w.heap.size + 1 + 1, 0, none⟩ (fun hg => by have := L0.out _ hg; simp at this; omega) (.slice B0 n0 s0))
  clear O0
  have c0 := A1.out.cell 0
  have c1 := A1.out.cell 1
  have c2 := A1.out.cell 2
  have d0 := A3.out.cell 0
  have f0 := A3.out.frozen 0
  have d1 := A3.out.cell 1
  have f1 := A3.out.frozen 1
  have d2 := A3.out.cell 2
  have f2 := A3.out.frozen 2
  simp at c0 c1 c2 d0 d1 d2
  clear A1 A2 A3 G1
  go_wp2_with fail
  have R := CS.grow _ H1.out KG.out
  refine (toIntS_k m.cs u1 _ R (by have := HN.out; unfold PbM.fit at this; omega)).mono ?_
  rintro e x2 ⟨v1, F1, rfl, o1, l1, g1⟩
  obtain ⟨B1, n1, s1, rfl⟩ := row_form o1
  have Z2 := g1.size
  try simp at Z2
  have L1 : Hid (∀ g ∈ F1, x1.heap.size ≤ g) := fun g hg => by have := l1 g hg; simpa using this
  have O1 := Lib.hid o1
  have Q1 : Hid (∀ g ∈ F1, g < x2.heap.size) := fun g hg => CS.lt _ o1 g hg
  have N0 := Lib.hid (own_growK _ P0.out g1)
  clear P0
  have O0 := N0
  clear N0
  have E1 := Lib.hid (Blk.grow (K1.out) g1)
  have E2 := Lib.hid (Blk.grow (K2.out) g1)
  have E3 := Lib.hid (Blk.grow (K3.out) g1)
  have G2 := Lib.hid (gbT (KG.out) g1)
  clear R l1 g1 o1 K1 K2 K3 KG c0 c1 c2 d0 d1 d2 f0 f1 f2
  have A1 := E1
  have A2 := E2
  have A3 := E3
  clear E1 E2 E3
  have K1 := Lib.hid ((A1.out).far (p := ⟨w.heap.size + 1 + 1, 1, none⟩) (by first | (simp; done) | (simp; omega)) (.slice B1 n1 s1))
  have K2 := Lib.hid ((A2.out).far (p := ⟨w.heap.size + 1 + 1, 1, none⟩) (by first | (simp; done) | (simp; omega)) (.slice B1 n1 s1))
  have K3 := Lib.hid ((A3.out).set_ 1 (.slice B1 n1 s1))
  have KG := Lib.hid (gbS (G2.out) (p := ⟨w.heap.size + 1 + 1, 1, none⟩) (by simp; omega) (.slice B1 n1 s1))
  have P0 := Lib.hid (own_setK _ (O0.out) ⟨w.heap.size + 1 + 1, 1, none⟩ (fun hg => by have := L0.out _ hg; simp at this; omega) (.slice B1 n1 s1))
  clear O0
  have P1 := Lib.hid (own_setK _ (O1.out) ⟨w.heap.size + 1 + 1, 1, none⟩ (fun hg => by have := L1.out _ hg; simp at this; omega) (.slice B1 n1 s1))
  clear O1
  have c0 := A1.out.cell 0
  have c1 := A1.out.cell 1
  have c2 := A1.out.cell 2
  have d0 := A3.out.cell 0
  have f0 := A3.out.frozen 0
  have d1 := A3.out.cell 1
  have f1 := A3.out.frozen 1
  have d2 := A3.out.cell 2
  have f2 := A3.out.frozen 2
  simp at c0 c1 c2 d0 d1 d2
  clear A1 A2 A3 G2
  go_wp2_with fail
  have R := CS.grow _ H2.out KG.out
  refine (toIntS_k m.ds u2 _ R (by have := HN.out; unfold PbM.fit at this; omega)).mono ?_
  rintro e x3 ⟨v2, F2, rfl, o2, l2, g2⟩
  obtain ⟨B2, n2, s2, rfl⟩ := row_form o2
  have Z3 := g2.size
  try simp at Z3
  have L2 : Hid (∀ g ∈ F2, x2.heap.size ≤ g) := fun g hg => by have := l2 g hg; simpa using this
  have O2 := Lib.hid o2
  have Q2 : Hid (∀ g ∈ F2, g < x3.heap.size) := fun g hg => CS.lt _ o2 g hg
  have N0 := Lib.hid (own_growK _ P0.out g2)
  clear P0
  have O0 := N0
  clear N0
  have N1 := Lib.hid (own_growK _ P1.out g2)
  clear P1
  have O1 := N1
  clear N1
  have E1 := Lib.hid (Blk.grow (K1.out) g2)
  have E2 := Lib.hid (Blk.grow (K2.out) g2)
  have E3 := Lib.hid (Blk.grow (K3.out) g2)
  have G3 := Lib.hid (gbT (KG.out) g2)
  clear R l2 g2 o2 K1 K2 K3 KG c0 c1 c2 d0 d1 d2 f0 f1 f2
  have A1 := E1
  have A2 := E2
  have A3 := E3
  clear E1 E2 E3
  have K2 := Lib.hid (((((A2.out).far (p := ⟨w.heap.size + 1 + 1, 2, none⟩) (by first | (simp; done) | (simp; omega)) (.slice B2 n2 s2)).set_ 0 (.slice B0 n0 s0)).set_ 1 (.slice B1 n1 s1)).set_ 2 (.slice B2 n2 s2))
  have KG := Lib.hid (gbS (gbS (gbS (gbS (G3.out) (p := ⟨w.heap.size + 1 + 1, 2, none⟩) (by simp; omega) (.slice B2 n2 s2)) (p := ⟨w.heap.size + 1, 0, none⟩) (by simp) (.slice B0 n0 s0)) (p := ⟨w.heap.size + 1, 1, none⟩) (by simp) (.slice B1 n1 s1)) (p := ⟨w.heap.size + 1, 2, none⟩) (by simp) (.slice B2 n2 s2))
  have P0 := Lib.hid (own_setK _ (own_setK _ (own_setK _ (own_setK _ (O0.out) ⟨w.heap.size + 1 + 1, 2, none⟩ (fun hg => by have := L0.out _ hg; simp at this; omega) (.slice B2 n2 s2)) ⟨w.heap.size + 1, 0, none⟩ (fun hg => by have := L0.out _ hg; simp at this; omega) (.slice B0 n0 s0)) ⟨w.heap.size + 1, 1, none⟩ (fun hg => by have := L0.out _ hg; simp at this; omega) (.slice B1 n1 s1)) ⟨w.heap.size + 1, 2, none⟩ (fun hg => by have := L0.out _ hg; simp at this; omega) (.slice B2 n2 s2))
  have P1 := Lib.hid (own_setK _ (own_setK _ (own_setK _ (own_setK _ (O1.out) ⟨w.heap.size + 1 + 1, 2, none⟩ (fun hg => by have := L1.out _ hg; simp at this; omega) (.slice B2 n2 s2)) ⟨w.heap.size + 1, 0, none⟩ (fun hg => by have := L1.out _ hg; simp at this; omega) (.slice B0 n0 s0)) ⟨w.heap.size + 1, 1, none⟩ (fun hg => by have := L1.out _ hg; simp at this; omega) (.slice B1 n1 s1)) ⟨w.heap.size + 1, 2, none⟩ (fun hg => by have := L1.out _ hg; simp at this; omega) (.slice B2 n2 s2))
  have P2 := Lib.hid (own_setK _ (own_setK _ (own_setK _ (own_setK _ (O2.out) ⟨w.heap.size + 1 + 1, 2, none⟩ (fun hg => by have := L2.out _ hg; simp at this; omega) (.slice B2 n2 s2)) ⟨w.heap.size + 1, 0, none⟩ (fun hg => by have := L2.out _ hg; simp at this; omega) (.slice B0 n0 s0)) ⟨w.heap.size + 1, 1, none⟩ (fun hg => by have := L2.out _ hg; simp at this; omega) (.slice B1 n1 s1)) ⟨w.heap.size + 1, 2, none⟩ (fun hg => by have := L2.out _ hg; simp at this; omega) (.slice B2 n2 s2))
  have D01 : Hid (∀ g ∈ F0, g ∉ F1) := fun g h1 h2 => by have h3 := L1.out g h2; have h4 := Q0.out g h1; omega
  have D02 : Hid (∀ g ∈ F0, g ∉ F2) := fun g h1 h2 => by have h3 := L2.out g h2; have h4 := Q0.out g h1; omega
  have D12 : Hid (∀ g ∈ F1, g ∉ F2) := fun g h1 h2 => by have h3 := L2.out g h2; have h4 := Q1.out g h1; omega
  have d := A3.out
  have d0 := A3.out.cell 0
  have f0 := A3.out.frozen 0
  have b0 := A2.out.cell 0
  have t0 := A2.out.frozen 0
  have d1 := A3.out.cell 1
  have f1 := A3.out.frozen 1
  have b1 := A2.out.cell 1
  have t1 := A2.out.frozen 1
  have d2 := A3.out.cell 2
  have f2 := A3.out.frozen 2
  have b2 := A2.out.cell 2
  have t2 := A2.out.frozen 2
  clear d
  simp at d0 d1 d2 b0 b1 b2
  clear A1 A2 A3 G3
  go_wp2_with fail
  refine ret_c Try.results84 (by rfl) stPublicK (cs := #[(.slice B0 n0 s0), (.slice B1 n1 s1), (.slice B2 n2 s2)]) ?B (by rfl) (by rfl) ?_
  case B => exact K2.out
  refine ⟨_, _, rfl, cpublic_omk P0.out P1.out P2.out D01.out D02.out D12.out, fun g hg => ?_, KG.out⟩
  simp at hg
  rcases hg with hg | hg | hg
  · have := L0.out g hg; omega
  · have := L1.out g hg; omega
  · have := L2.out g hg; omega
set_option maxHeartbeats 1000000 in
theorem eqPublic_k (m : PbM) (v u : Value) (w : World) (h : AggR w (cpublic m) v) (k : AggR w (cpublic m) u) (hn : m.fit) :
    Calls Try.prog 78 #[v, u] w fun e w' => e = .returned (.bool true) ∧ w.grownBy w' none := by
  obtain ⟨u0, u1, u2, rfl, h0, h1, h2⟩ := cpublic_open h
  obtain ⟨t0, t1, t2, rfl, k0, k1, k2⟩ := cpublic_open k
  have HN := Lib.hid hn
  have H0 := Lib.hid h0
  have K0 := Lib.hid k0
  have H1 := Lib.hid h1
  have K1 := Lib.hid k1
  have H2 := Lib.hid h2
  have K2 := Lib.hid k2
  clear h k hn h0 h1 h2 k0 k1 k2
  go_enter Try.func78, Try.ntmps78
  have A1 : Hid (Blk ((w.alloc (.cells #[u0, u1, u2] 70)).alloc (.cells #[t0, t1, t2] 70)) w.heap.size 70 #[u0, u1, u2]) := (Blk.new w _ _).grow (gbA (gbR _ _) _)
  have A2 : Hid (Blk ((w.alloc (.cells #[u0, u1, u2] 70)).alloc (.cells #[t0, t1, t2] 70)) (w.heap.size + 1) 70 #[t0, t1, t2]) := Blk.new' _ _ _ _ (by simp)
  have G0 : Hid (w.grownBy ((w.alloc (.cells #[u0, u1, u2] 70)).alloc (.cells #[t0, t1, t2] 70)) none) := gbA (gbA (gbR _ _) _) _
  go_wp2_with fail
  refine (eqIntS_k m.ts u0 t0 _ (CS.grow _ H0.out G0.out) (CS.grow _ K0.out G0.out) (by have := HN.out; unfold PbM.fit at this; omega)).mono ?_
  rintro e x1 ⟨rfl, g0⟩
  have G1 := Lib.hid (gbT G0.out g0)
  have E1 := Lib.hid (Blk.grow A1.out g0)
  have E2 := Lib.hid (Blk.grow A2.out g0)
  clear A1 A2 g0
  have A1 := E1
  have A2 := E2
  clear E1 E2
  have c1 := A1.out.cell 1
  have d1 := A2.out.cell 1
  have c2 := A1.out.cell 2
  have d2 := A2.out.cell 2
  simp at c1 d1 c2 d2
  go_wp2_with fail
  clear c1 d1 c2 d2
  refine (eqIntS_k m.cs u1 t1 _ (CS.grow _ H1.out G1.out) (CS.grow _ K1.out G1.out) (by have := HN.out; unfold PbM.fit at this; omega)).mono ?_
  rintro e x2 ⟨rfl, g1⟩
  have G2 := Lib.hid (gbT G1.out g1)
  have E1 := Lib.hid (Blk.grow A1.out g1)
  have E2 := Lib.hid (Blk.grow A2.out g1)
  clear A1 A2 g1
  have A1 := E1
  have A2 := E2
  clear E1 E2
  have c2 := A1.out.cell 2
  have d2 := A2.out.cell 2
  simp at c2 d2
  go_wp2_with fail
  clear c2 d2
  refine (eqIntS_k m.ds u2 t2 _ (CS.grow _ H2.out G2.out) (CS.grow _ K2.out G2.out) (by have := HN.out; unfold PbM.fit at this; omega)).mono ?_
  rintro e x3 ⟨rfl, g2⟩
  have G3 := Lib.hid (gbT G2.out g2)
  have E1 := Lib.hid (Blk.grow A1.out g2)
  have E2 := Lib.hid (Blk.grow A2.out g2)
  clear A1 A2 g2
  have A1 := E1
  have A2 := E2
  clear E1 E2
  go_wp2_with fail
  go_ret
  exact ⟨rfl, G3.out⟩
set_option maxHeartbeats 1000000 in
theorem szPublic_k (m : PbM) (v : Value) (l : Nat) (w : World) (h : AggR w (cpublic m) v) (hl : l ≤ 1048576) :
    Calls Try.prog 82 #[v, .int .i64 l] w fun e w' => e = .returned (.int .i64 (szO l m.sz)) ∧ w.grownBy w' none := by
  obtain ⟨u0, u1, u2, rfl, h0, h1, h2⟩ := cpublic_open h
  have H0 := Lib.hid h0
  have H1 := Lib.hid h1
  have H2 := Lib.hid h2
  clear h h0 h1 h2
  have A0 := Lib.hid (Blk.new w 109 #[u0, u1, u2])
  have G0 := Lib.hid (gbA (gbR w none) (.cells #[u0, u1, u2] 109))
  by_cases b0 : m.ts.length ≤ l
  · have C0 := Lib.hid (szO_yes b0)
    have Y0 := Lib.hid b0
    clear b0
    by_cases b1 : m.cs.length ≤ l - m.ts.length
    · have C1 := Lib.hid (szO_yes b1)
      have Y1 := Lib.hid b1
      clear b1
      by_cases b2 : m.ds.length ≤ l - m.ts.length - m.cs.length
      · have C2 := Lib.hid (szO_yes b2)
        have Y2 := Lib.hid b2
        clear b2
        go_enter Try.func82, Try.ntmps82
        go_wp2_with fail
        refine (szIntS_k m.ts u0 (l) _ (CS.grow _ H0.out G0.out) (by omega)).mono ?_
        rintro e x1 ⟨rfl, g0⟩
        rw [C0.out]
        have G1 := Lib.hid (gbT G0.out g0)
        have A1 := Lib.hid (Blk.grow A0.out g0)
        have c1 := A1.out.cell 1
        simp at c1
        have s0 : ¬ ((l - m.ts.length : Nat) : Int) < 0 := by omega
        clear g0
        go_wp2_with fail
        refine (szIntS_k m.cs u1 (l - m.ts.length) _ (CS.grow _ H1.out G1.out) (by omega)).mono ?_
        rintro e x2 ⟨rfl, g1⟩
        rw [C1.out]
        have G2 := Lib.hid (gbT G1.out g1)
        have A2 := Lib.hid (Blk.grow A1.out g1)
        have c2 := A2.out.cell 2
        simp at c2
        have s1 : ¬ ((l - m.ts.length - m.cs.length : Nat) : Int) < 0 := by omega
        clear g1
        go_wp2_with fail
        refine (szIntS_k m.ds u2 (l - m.ts.length - m.cs.length) _ (CS.grow _ H2.out G2.out) (by omega)).mono ?_
        rintro e x3 ⟨rfl, g2⟩
        rw [C2.out]
        have G3 := Lib.hid (gbT G2.out g2)
        have A3 := Lib.hid (Blk.grow A2.out g2)
        have s2 : ¬ ((l - m.ts.length - m.cs.length - m.ds.length : Nat) : Int) < 0 := by omega
        clear g2
        go_wp2_with fail
        go_ret
        exact ⟨retI (by have := Y0.out; have := Y1.out; have := Y2.out; rw [szO_yes (by unfold PbM.sz; omega)]; unfold PbM.sz; omega), G3.out⟩
      · have C2 := Lib.hid (szO_no (Nat.lt_of_not_le b2))
        have N2 := Lib.hid b2
        clear b2
        go_enter Try.func82, Try.ntmps82
        go_wp2_with fail
        refine (szIntS_k m.ts u0 (l) _ (CS.grow _ H0.out G0.out) (by omega)).mono ?_
        rintro e x1 ⟨rfl, g0⟩
        rw [C0.out]
        have G1 := Lib.hid (gbT G0.out g0)
        have A1 := Lib.hid (Blk.grow A0.out g0)
        have c1 := A1.out.cell 1
        simp at c1
        have s0 : ¬ ((l - m.ts.length : Nat) : Int) < 0 := by omega
        clear g0
        go_wp2_with fail
        refine (szIntS_k m.cs u1 (l - m.ts.length) _ (CS.grow _ H1.out G1.out) (by omega)).mono ?_
        rintro e x2 ⟨rfl, g1⟩
        rw [C1.out]
        have G2 := Lib.hid (gbT G1.out g1)
        have A2 := Lib.hid (Blk.grow A1.out g1)
        have c2 := A2.out.cell 2
        simp at c2
        have s1 : ¬ ((l - m.ts.length - m.cs.length : Nat) : Int) < 0 := by omega
        clear g1
        go_wp2_with fail
        refine (szIntS_k m.ds u2 (l - m.ts.length - m.cs.length) _ (CS.grow _ H2.out G2.out) (by omega)).mono ?_
        rintro e x3 ⟨rfl, g2⟩
        rw [C2.out]
        have G3 := Lib.hid (gbT G2.out g2)
        have A3 := Lib.hid (Blk.grow A2.out g2)
        clear g2
        go_wp2_with fail
        go_ret
        exact ⟨retI (by rw [szO_no]; have := N2.out; have := Y0.out; have := Y1.out; unfold PbM.sz; omega), G3.out⟩
    · have C1 := Lib.hid (szO_no (Nat.lt_of_not_le b1))
      have N1 := Lib.hid b1
      clear b1
      go_enter Try.func82, Try.ntmps82
      go_wp2_with fail
      refine (szIntS_k m.ts u0 (l) _ (CS.grow _ H0.out G0.out) (by omega)).mono ?_
      rintro e x1 ⟨rfl, g0⟩
      rw [C0.out]
      have G1 := Lib.hid (gbT G0.out g0)
      have A1 := Lib.hid (Blk.grow A0.out g0)
      have c1 := A1.out.cell 1
      simp at c1
      have s0 : ¬ ((l - m.ts.length : Nat) : Int) < 0 := by omega
      clear g0
      go_wp2_with fail
      refine (szIntS_k m.cs u1 (l - m.ts.length) _ (CS.grow _ H1.out G1.out) (by omega)).mono ?_
      rintro e x2 ⟨rfl, g1⟩
      rw [C1.out]
      have G2 := Lib.hid (gbT G1.out g1)
      have A2 := Lib.hid (Blk.grow A1.out g1)
      clear g1
      go_wp2_with fail
      go_ret
      exact ⟨retI (by rw [szO_no]; have := N1.out; have := Y0.out; unfold PbM.sz; omega), G2.out⟩
  · have C0 := Lib.hid (szO_no (Nat.lt_of_not_le b0))
    have N0 := Lib.hid b0
    clear b0
    go_enter Try.func82, Try.ntmps82
    go_wp2_with fail
    refine (szIntS_k m.ts u0 (l) _ (CS.grow _ H0.out G0.out) (by omega)).mono ?_
    rintro e x1 ⟨rfl, g0⟩
    rw [C0.out]
    have G1 := Lib.hid (gbT G0.out g0)
    have A1 := Lib.hid (Blk.grow A0.out g0)
    clear g0
    go_wp2_with fail
    go_ret
    exact ⟨retI (by rw [szO_no]; have := N0.out; unfold PbM.sz; omega), G1.out⟩
end Go.Proofs.Ythdfkiaoahpjpaa
