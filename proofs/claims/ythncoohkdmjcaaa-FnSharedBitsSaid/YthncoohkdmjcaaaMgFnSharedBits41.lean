/-
  The laws' helpers on Oram, by what it reads as (printed by wip/gen_sk.py).
-/
import Derived.Test.YthncoohkdmjcaaaMgFnSharedBits16
import Derived.Test.YthncoohkdmjcaaaMgFnSharedBits38
import Derived.Test.YthncoohkdmjcaaaMgFnSharedBits37
namespace Go.Proofs.Ythncoohkdmjcaaa
open Go.RowKit
set_option linter.unusedVariables false
set_option linter.unusedSimpArgs false

abbrev coram (m : OM) : List CS := [cblockss m.bk, cblocks m.st, cints m.pos]
def OM.sz (m : OM) : Nat := szB m.bk + m.st.length + m.pos.length
def OM.cnt (k : Int) (m : OM) : Int := k + cntB m.bk + 2 * m.st.length + m.pos.length
def OM.mkd (k : Int) (m : OM) : OM := { m with bk := mkSS (k) m.bk, st := mk2 (k + cntB m.bk) m.st.length, pos := marks (k + cntB m.bk + 2 * m.st.length) m.pos.length }
def OM.wf (m : OM) : Prop := (∀ l ∈ m.bk, ∀ z ∈ l, w2 z) ∧ (∀ z ∈ m.st, w2 z) ∧ (∀ z ∈ m.pos, i64w z)
theorem stOram : St Try.prog 36 3 := ⟨⟨_, Try.underlying36, rfl⟩, by kernel_rfl⟩
theorem coram_open {w : World} {m : OM} {v : Value} (h : AggR w (coram m) v) : ∃ u0 u1 u2, v = .agg #[u0, u1, u2] ∧ (cblockss m.bk).rd w u0 ∧ (cblocks m.st).rd w u1 ∧ (cints m.pos).rd w u2 := by
  obtain ⟨vs, rfl, h⟩ := h
  obtain ⟨u0, vs0, rfl, h0, h⟩ := RdAll.head h
  obtain ⟨u1, vs1, rfl, h1, h⟩ := RdAll.head h
  obtain ⟨u2, vs2, rfl, h2, h⟩ := RdAll.head h
  obtain rfl := RdAll.none h
  exact ⟨u0, u1, u2, rfl, h0, h1, h2⟩
theorem coram_mk {w : World} {m : OM} {u0 u1 u2 : Value} (h0 : (cblockss m.bk).rd w u0) (h1 : (cblocks m.st).rd w u1) (h2 : (cints m.pos).rd w u2) : AggR w (coram m) (.agg #[u0, u1, u2]) := ⟨_, rfl, (RdAll.cons h0 (RdAll.cons h1 (RdAll.cons h2 (RdAll.nil _))))⟩
theorem coram_oform {w : World} {m : OM} {F : List Nat} {v : Value} (h : AggO w (coram m) F v) : ∃ (A0 : Option Addr) (n0 s0 : Nat) (A1 : Option Addr) (n1 s1 : Nat) (A2 : Option Addr) (n2 s2 : Nat), v = .agg #[(.slice A0 n0 s0), (.slice A1 n1 s1), (.slice A2 n2 s2)] := by
  obtain ⟨vs, Fs, rfl, h, rfl⟩ := h
  obtain ⟨u0, vs0, F0, Fs0, rfl, rfl, h0, h, d0⟩ := OwnAll.head h
  obtain ⟨u1, vs1, F1, Fs1, rfl, rfl, h1, h, d1⟩ := OwnAll.head h
  obtain ⟨u2, vs2, F2, Fs2, rfl, rfl, h2, h, d2⟩ := OwnAll.head h
  obtain ⟨rfl, rfl⟩ := OwnAll.none h
  obtain ⟨A0, n0, s0, rfl⟩ := row_form h0
  obtain ⟨A1, n1, s1, rfl⟩ := row_form h1
  obtain ⟨A2, n2, s2, rfl⟩ := row_form h2
  exact ⟨A0, n0, s0, A1, n1, s1, A2, n2, s2, rfl⟩
theorem coram_oopen {w : World} {m : OM} {F : List Nat} {v : Value} (h : AggO w (coram m) F v) : ∃ u0 u1 u2 F0 F1 F2, v = .agg #[u0, u1, u2] ∧ F = [F0, F1, F2].flatten ∧ (cblockss m.bk).own w F0 u0 ∧ (cblocks m.st).own w F1 u1 ∧ (cints m.pos).own w F2 u2 ∧ (∀ g ∈ F0, g ∉ F1) ∧ (∀ g ∈ F0, g ∉ F2) ∧ (∀ g ∈ F1, g ∉ F2) := by
  obtain ⟨vs, Fs, rfl, h, rfl⟩ := h
  obtain ⟨u0, vs0, F0, Fs0, rfl, rfl, h0, h, d0⟩ := OwnAll.head h
  obtain ⟨u1, vs1, F1, Fs1, rfl, rfl, h1, h, d1⟩ := OwnAll.head h
  obtain ⟨u2, vs2, F2, Fs2, rfl, rfl, h2, h, d2⟩ := OwnAll.head h
  obtain ⟨rfl, rfl⟩ := OwnAll.none h
  exact ⟨u0, u1, u2, F0, F1, F2, rfl, rfl, h0, h1, h2, fun g hg hg' => d0 g hg (by simp [hg']), fun g hg hg' => d0 g hg (by simp [hg']), fun g hg hg' => d1 g hg (by simp [hg'])⟩
theorem coram_omk {w : World} {m : OM} {u0 u1 u2 : Value} {F0 F1 F2 : List Nat} (h0 : (cblockss m.bk).own w F0 u0) (h1 : (cblocks m.st).own w F1 u1) (h2 : (cints m.pos).own w F2 u2) (d01 : ∀ g ∈ F0, g ∉ F1) (d02 : ∀ g ∈ F0, g ∉ F2) (d12 : ∀ g ∈ F1, g ∉ F2) : AggO w (coram m) [F0, F1, F2].flatten (.agg #[u0, u1, u2]) := ⟨_, _, rfl, (OwnAll.cons h0 (OwnAll.cons h1 (OwnAll.cons h2 (OwnAll.nil _) (fun g hg => by simp)) (fun g hg => by simp [d12 g hg])) (fun g hg => by simp [d01 g hg, d02 g hg])), rfl⟩
set_option maxHeartbeats 1000000 in
theorem toOram_k (m : OM) (v : Value) (w : World) (h : AggR w (coram m) v) (hn : m.sz ≤ 1048576) :
    Calls Try.prog 23 #[v] w fun e w' => ∃ u F, e = .returned u ∧ AggO w' (coram m) F u ∧ (∀ g ∈ F, w.heap.size ≤ g) ∧ w.grownBy w' none := by
  obtain ⟨u0, u1, u2, rfl, h0, h1, h2⟩ := coram_open h
  have HN := Lib.hid hn
  have H0 := Lib.hid h0
  have H1 := Lib.hid h1
  have H2 := Lib.hid h2
  clear h hn h0 h1 h2
  go_enter Try.func23, Try.ntmps23
  go_wp2_with fail
  obtain ⟨x0, e0⟩ : ∃ x : World, x = ((w.alloc (.cells #[u0, u1, u2] 30)).alloc (.cells #[(.slice none 0 0), (.slice none 0 0), (.slice none 0 0)] 36)).alloc (.cells #[(.slice none 0 0), (.slice none 0 0), (.slice none 0 0)] 36) := ⟨_, rfl⟩
  have A1 : Hid (Blk x0 w.heap.size 30 #[u0, u1, u2]) := by rw [e0]; exact ((Blk.new w _ _).grow (gbA (gbR _ _) _)).grow (gbA (gbR _ _) _)
  have A2 : Hid (Blk x0 (w.heap.size + 1) 36 #[(.slice none 0 0), (.slice none 0 0), (.slice none 0 0)]) := by rw [e0]; exact (Blk.new' _ _ _ _ (by simp)).grow (gbA (gbR _ _) _)
  have A3 : Hid (Blk x0 (w.heap.size + 1 + 1) 36 #[(.slice none 0 0), (.slice none 0 0), (.slice none 0 0)]) := by rw [e0]; exact Blk.new' _ _ _ _ (by simp)
  have G0 : Hid (w.grownBy x0 none) := by rw [e0]; exact gbA (gbA (gbA (gbR _ _) _) _) _
  have Z0 : x0.heap.size = w.heap.size + 1 + 1 + 1 := by rw [e0]; simp
  try rw [← e0]
  clear e0
  have R := CS.grow _ H0.out G0.out
  refine (toBlockSS_z m.bk u0 _ R (by have := HN.out; unfold OM.sz at this; omega)).mono ?_
  rintro e x1 ⟨v0, F0, rfl, o0, l0, g0⟩
  obtain ⟨B0, n0, s0, rfl⟩ := row_form o0
  have Z1 := g0.size
  try simp at Z1
  have L0 : Hid (∀ g ∈ F0, x0.heap.size ≤ g) := fun g hg => by have := l0 g hg; simpa using this
  have O0 := Lib.hid o0
  have Q0 : Hid (∀ g ∈ F0, g < x1.heap.size) := fun g hg => CS.lt _ o0 g hg
  have E1 := Lib.hid (Blk.grow (A1.out) g0)
  have E2 := Lib.hid (Blk.grow (A2.out) g0)
  have E3 := Lib.hid (Blk.grow (A3.out) g0)
  have G1 := Lib.hid (gbT (G0.out) g0)
  clear R l0 g0 o0 A1 A2 A3 G0
  have A1 := E1
  have A2 := E2
  have A3 := E3
  clear E1 E2 E3
  have K1 := Lib.hid ((A1.out).far (p := ⟨w.heap.size + 1 + 1, 0, none⟩) (by first | (simp; done) | (simp; omega)) (.slice B0 n0 s0))
  have K2 := Lib.hid ((A2.out).far (p := ⟨w.heap.size + 1 + 1, 0, none⟩) (by first | (simp; done) | (simp; omega)) (.slice B0 n0 s0))
  have K3 := Lib.hid ((A3.out).set_ 0 (.slice B0 n0 s0))
  have KG := Lib.hid (gbS (G1.out) (p := ⟨w.heap.size + 1 + 1, 0, none⟩) (by simp; omega) (.slice B0 n0 s0))
  have P0 := Lib.hid (own_setK _ (O0.out) ⟨w.heap.size + 1 + 1, 0, none⟩ (fun hg => by have := L0.out _ hg; simp at this; omega) (.slice B0 n0 s0))
  clear O0
  have c0 := A1.out.cell 0
  have c1 := A1.out.cell 1
  have c2 := A1.out.cell 2
  have d0 := A3.out.cell 0
  have f0 := A3.out.frozen 0
  have d1 := A3.out.cell 1
  have f1 := A3.out.frozen 1
  have d2 := A3.out.cell 2
  have f2 := A3.out.frozen 2
  simp at c0 c1 c2 d0 d1 d2
  clear A1 A2 A3 G1
  go_wp2_with fail
  have R := CS.grow _ H1.out KG.out
  refine (toBlockS_k m.st u1 _ R (by have := HN.out; unfold OM.sz at this; omega)).mono ?_
  rintro e x2 ⟨v1, F1, rfl, o1, l1, g1⟩
  obtain ⟨B1, n1, s1, rfl⟩ := row_form o1
  have Z2 := g1.size
  try simp at Z2
  have L1 : Hid (∀ g ∈ F1, x1.heap.size ≤ g) := fun g hg => by have := l1 g hg; simpa using this
  have O1 := Lib.hid o1
  have Q1 : Hid (∀ g ∈ F1, g < x2.heap.size) := fun g hg => CS.lt _ o1 g hg
  have N0 := Lib.hid (own_growK _ P0.out g1)
  clear P0
  have O0 := N0
  clear N0
  have E1 := Lib.hid (Blk.grow (K1.out) g1)
  have E2 := Lib.hid (Blk.grow (K2.out) g1)
  have E3 := Lib.hid (Blk.grow (K3.out) g1)
  have G2 := Lib.hid (gbT (KG.out) g1)
  clear R l1 g1 o1 K1 K2 K3 KG c0 c1 c2 d0 d1 d2 f0 f1 f2
  have A1 := E1
  have A2 := E2
  have A3 := E3
  clear E1 E2 E3
  have K1 := Lib.hid ((A1.out).far (p := ⟨w.heap.size + 1 + 1, 1, none⟩) (by first | (simp; done) | (simp; omega)) (.slice B1 n1 s1))
  have K2 := Lib.hid ((A2.out).far (p := ⟨w.heap.size + 1 + 1, 1, none⟩) (by first | (simp; done) | (simp; omega)) (.slice B1 n1 s1))
  have K3 := Lib.hid ((A3.out).set_ 1 (.slice B1 n1 s1))
  have KG := Lib.hid (gbS (G2.out) (p := ⟨w.heap.size + 1 + 1, 1, none⟩) (by simp; omega) (.slice B1 n1 s1))
  have P0 := Lib.hid (own_setK _ (O0.out) ⟨w.heap.size + 1 + 1, 1, none⟩ (fun hg => by have := L0.out _ hg; simp at this; omega) (.slice B1 n1 s1))
  clear O0
  have P1 := Lib.hid (own_setK _ (O1.out) ⟨w.heap.size + 1 + 1, 1, none⟩ (fun hg => by have := L1.out _ hg; simp at this; omega) (.slice B1 n1 s1))
  clear O1
  have c0 := A1.out.cell 0
  have c1 := A1.out.cell 1
  have c2 := A1.out.cell 2
  have d0 := A3.out.cell 0
  have f0 := A3.out.frozen 0
  have d1 := A3.out.cell 1
  have f1 := A3.out.frozen 1
  have d2 := A3.out.cell 2
  have f2 := A3.out.frozen 2
  simp at c0 c1 c2 d0 d1 d2
  clear A1 A2 A3 G2
  go_wp2_with fail
  have R := CS.grow _ H2.out KG.out
  refine (toIntS_k m.pos u2 _ R (by have := HN.out; unfold OM.sz at this; omega)).mono ?_
  rintro e x3 ⟨v2, F2, rfl, o2, l2, g2⟩
  obtain ⟨B2, n2, s2, rfl⟩ := row_form o2
  have Z3 := g2.size
  try simp at Z3
  have L2 : Hid (∀ g ∈ F2, x2.heap.size ≤ g) := fun g hg => by have := l2 g hg; simpa using this
  have O2 := Lib.hid o2
  have Q2 : Hid (∀ g ∈ F2, g < x3.heap.size) := fun g hg => CS.lt _ o2 g hg
  have N0 := Lib.hid (own_growK _ P0.out g2)
  clear P0
  have O0 := N0
  clear N0
  have N1 := Lib.hid (own_growK _ P1.out g2)
  clear P1
  have O1 := N1
  clear N1
  have E1 := Lib.hid (Blk.grow (K1.out) g2)
  have E2 := Lib.hid (Blk.grow (K2.out) g2)
  have E3 := Lib.hid (Blk.grow (K3.out) g2)
  have G3 := Lib.hid (gbT (KG.out) g2)
  clear R l2 g2 o2 K1 K2 K3 KG c0 c1 c2 d0 d1 d2 f0 f1 f2
  have A1 := E1
  have A2 := E2
  have A3 := E3
  clear E1 E2 E3
  have K2 := Lib.hid (((((A2.out).far (p := ⟨w.heap.size + 1 + 1, 2, none⟩) (by first | (simp; done) | (simp; omega)) (.slice B2 n2 s2)).set_ 0 (.slice B0 n0 s0)).set_ 1 (.slice B1 n1 s1)).set_ 2 (.slice B2 n2 s2))
  have KG := Lib.hid (gbS (gbS (gbS (gbS (G3.out) (p := ⟨w.heap.size + 1 + 1, 2, none⟩) (by simp; omega) (.slice B2 n2 s2)) (p := ⟨w.heap.size + 1, 0, none⟩) (by simp) (.slice B0 n0 s0)) (p := ⟨w.heap.size + 1, 1, none⟩) (by simp) (.slice B1 n1 s1)) (p := ⟨w.heap.size + 1, 2, none⟩) (by simp) (.slice B2 n2 s2))
  have P0 := Lib.hid (own_setK _ (own_setK _ (own_setK _ (own_setK _ (O0.out) ⟨w.heap.size + 1 + 1, 2, none⟩ (fun hg => by have := L0.out _ hg; simp at this; omega) (.slice B2 n2 s2)) ⟨w.heap.size + 1, 0, none⟩ (fun hg => by have := L0.out _ hg; simp at this; omega) (.slice B0 n0 s0)) ⟨w.heap.size + 1, 1, none⟩ (fun hg => by have := L0.out _ hg; simp at this; omega) (.slice B1 n1 s1)) ⟨w.heap.size + 1, 2, none⟩ (fun hg => by have := L0.out _ hg; simp at this; omega) (.slice B2 n2 s2))
  have P1 := Lib.hid (own_setK _ (own_setK _ (own_setK _ (own_setK _ (O1.out) ⟨w.heap.size + 1 + 1, 2, none⟩ (fun hg => by have := L1.out _ hg; simp at this; omega) (.slice B2 n2 s2)) ⟨w.heap.size + 1, 0, none⟩ (fun hg => by have := L1.out _ hg; simp at this; omega) (.slice B0 n0 s0)) ⟨w.heap.size + 1, 1, none⟩ (fun hg => by have := L1.out _ hg; simp at this; omega) (.slice B1 n1 s1)) ⟨w.heap.size + 1, 2, none⟩ (fun hg => by have := L1.out _ hg; simp at this; omega) (.slice B2 n2 s2))
  have P2 := Lib.hid (own_setK _ (own_setK _ (own_setK _ (own_setK _ (O2.out) ⟨w.heap.size + 1 + 1, 2, none⟩ (fun hg => by have := L2.out _ hg; simp at this; omega) (.slice B2 n2 s2)) ⟨w.heap.size + 1, 0, none⟩ (fun hg => by have := L2.out _ hg; simp at this; omega) (.slice B0 n0 s0)) ⟨w.heap.size + 1, 1, none⟩ (fun hg => by have := L2.out _ hg; simp at this; omega) (.slice B1 n1 s1)) ⟨w.heap.size + 1, 2, none⟩ (fun hg => by have := L2.out _ hg; simp at this; omega) (.slice B2 n2 s2))
  have D01 : Hid (∀ g ∈ F0, g ∉ F1) := fun g h1 h2 => by have h3 := L1.out g h2; have h4 := Q0.out g h1; omega
  have D02 : Hid (∀ g ∈ F0, g ∉ F2) := fun g h1 h2 => by have h3 := L2.out g h2; have h4 := Q0.out g h1; omega
  have D12 : Hid (∀ g ∈ F1, g ∉ F2) := fun g h1 h2 => by have h3 := L2.out g h2; have h4 := Q1.out g h1; omega
  have d := A3.out
  have d0 := A3.out.cell 0
  have f0 := A3.out.frozen 0
  have b0 := A2.out.cell 0
  have t0 := A2.out.frozen 0
  have d1 := A3.out.cell 1
  have f1 := A3.out.frozen 1
  have b1 := A2.out.cell 1
  have t1 := A2.out.frozen 1
  have d2 := A3.out.cell 2
  have f2 := A3.out.frozen 2
  have b2 := A2.out.cell 2
  have t2 := A2.out.frozen 2
  clear d
  simp at d0 d1 d2 b0 b1 b2
  clear A1 A2 A3 G3
  go_wp2_with fail
  refine ret_c Try.results23 (by rfl) stOram (cs := #[(.slice B0 n0 s0), (.slice B1 n1 s1), (.slice B2 n2 s2)]) ?B (by rfl) (by rfl) ?_
  case B => exact K2.out
  refine ⟨_, _, rfl, coram_omk P0.out P1.out P2.out D01.out D02.out D12.out, fun g hg => ?_, KG.out⟩
  simp at hg
  rcases hg with hg | hg | hg
  · have := L0.out g hg; omega
  · have := L1.out g hg; omega
  · have := L2.out g hg; omega
set_option maxHeartbeats 1000000 in
theorem eqOram_k (m : OM) (v u : Value) (w : World) (h : AggR w (coram m) v) (k : AggR w (coram m) u) (hn : m.sz ≤ 1048576) :
    Calls Try.prog 25 #[v, u] w fun e w' => e = .returned (.bool true) ∧ w.grownBy w' none := by
  obtain ⟨u0, u1, u2, rfl, h0, h1, h2⟩ := coram_open h
  obtain ⟨t0, t1, t2, rfl, k0, k1, k2⟩ := coram_open k
  have HN := Lib.hid hn
  have H0 := Lib.hid h0
  have K0 := Lib.hid k0
  have H1 := Lib.hid h1
  have K1 := Lib.hid k1
  have H2 := Lib.hid h2
  have K2 := Lib.hid k2
  clear h k hn h0 h1 h2 k0 k1 k2
  go_enter Try.func25, Try.ntmps25
  have A1 : Hid (Blk ((w.alloc (.cells #[u0, u1, u2] 36)).alloc (.cells #[t0, t1, t2] 36)) w.heap.size 36 #[u0, u1, u2]) := (Blk.new w _ _).grow (gbA (gbR _ _) _)
  have A2 : Hid (Blk ((w.alloc (.cells #[u0, u1, u2] 36)).alloc (.cells #[t0, t1, t2] 36)) (w.heap.size + 1) 36 #[t0, t1, t2]) := Blk.new' _ _ _ _ (by simp)
  have G0 : Hid (w.grownBy ((w.alloc (.cells #[u0, u1, u2] 36)).alloc (.cells #[t0, t1, t2] 36)) none) := gbA (gbA (gbR _ _) _) _
  go_wp2_with fail
  refine (eqBlockSS_z m.bk u0 t0 _ (CS.grow _ H0.out G0.out) (CS.grow _ K0.out G0.out) (by have := HN.out; unfold OM.sz at this; omega)).mono ?_
  rintro e x1 ⟨rfl, g0⟩
  have G1 := Lib.hid (gbT G0.out g0)
  have E1 := Lib.hid (Blk.grow A1.out g0)
  have E2 := Lib.hid (Blk.grow A2.out g0)
  clear A1 A2 g0
  have A1 := E1
  have A2 := E2
  clear E1 E2
  have c1 := A1.out.cell 1
  have d1 := A2.out.cell 1
  have c2 := A1.out.cell 2
  have d2 := A2.out.cell 2
  simp at c1 d1 c2 d2
  go_wp2_with fail
  clear c1 d1 c2 d2
  refine (eqBlockS_k m.st u1 t1 _ (CS.grow _ H1.out G1.out) (CS.grow _ K1.out G1.out) (by have := HN.out; unfold OM.sz at this; omega)).mono ?_
  rintro e x2 ⟨rfl, g1⟩
  have G2 := Lib.hid (gbT G1.out g1)
  have E1 := Lib.hid (Blk.grow A1.out g1)
  have E2 := Lib.hid (Blk.grow A2.out g1)
  clear A1 A2 g1
  have A1 := E1
  have A2 := E2
  clear E1 E2
  have c2 := A1.out.cell 2
  have d2 := A2.out.cell 2
  simp at c2 d2
  go_wp2_with fail
  clear c2 d2
  refine (eqIntS_k m.pos u2 t2 _ (CS.grow _ H2.out G2.out) (CS.grow _ K2.out G2.out) (by have := HN.out; unfold OM.sz at this; omega)).mono ?_
  rintro e x3 ⟨rfl, g2⟩
  have G3 := Lib.hid (gbT G2.out g2)
  have E1 := Lib.hid (Blk.grow A1.out g2)
  have E2 := Lib.hid (Blk.grow A2.out g2)
  clear A1 A2 g2
  have A1 := E1
  have A2 := E2
  clear E1 E2
  go_wp2_with fail
  go_ret
  exact ⟨rfl, G3.out⟩
set_option maxHeartbeats 1000000 in
theorem szOram_k (m : OM) (v : Value) (l : Nat) (w : World) (h : AggR w (coram m) v) (hl : l ≤ 1048576) :
    Calls Try.prog 21 #[v, .int .i64 l] w fun e w' => e = .returned (.int .i64 (szO l m.sz)) ∧ w.grownBy w' none := by
  obtain ⟨u0, u1, u2, rfl, h0, h1, h2⟩ := coram_open h
  have H0 := Lib.hid h0
  have H1 := Lib.hid h1
  have H2 := Lib.hid h2
  clear h h0 h1 h2
  have A0 := Lib.hid (Blk.new w 30 #[u0, u1, u2])
  have G0 := Lib.hid (gbA (gbR w none) (.cells #[u0, u1, u2] 30))
  by_cases b0 : szB m.bk ≤ l
  · have C0 := Lib.hid (szO_yes b0)
    have Y0 := Lib.hid b0
    clear b0
    by_cases b1 : m.st.length ≤ l - szB m.bk
    · have C1 := Lib.hid (szO_yes b1)
      have Y1 := Lib.hid b1
      clear b1
      by_cases b2 : m.pos.length ≤ l - szB m.bk - m.st.length
      · have C2 := Lib.hid (szO_yes b2)
        have Y2 := Lib.hid b2
        clear b2
        go_enter Try.func21, Try.ntmps21
        go_wp2_with fail
        refine (szBlockSS_z m.bk u0 (l) _ (CS.grow _ H0.out G0.out) (by omega)).mono ?_
        rintro e x1 ⟨rfl, g0⟩
        rw [C0.out]
        have G1 := Lib.hid (gbT G0.out g0)
        have A1 := Lib.hid (Blk.grow A0.out g0)
        have c1 := A1.out.cell 1
        simp at c1
        have s0 : ¬ ((l - szB m.bk : Nat) : Int) < 0 := by omega
        clear g0
        go_wp2_with fail
        refine (szBlockS_k m.st u1 (l - szB m.bk) _ (CS.grow _ H1.out G1.out) (by omega)).mono ?_
        rintro e x2 ⟨rfl, g1⟩
        rw [C1.out]
        have G2 := Lib.hid (gbT G1.out g1)
        have A2 := Lib.hid (Blk.grow A1.out g1)
        have c2 := A2.out.cell 2
        simp at c2
        have s1 : ¬ ((l - szB m.bk - m.st.length : Nat) : Int) < 0 := by omega
        clear g1
        go_wp2_with fail
        refine (szIntS_k m.pos u2 (l - szB m.bk - m.st.length) _ (CS.grow _ H2.out G2.out) (by omega)).mono ?_
        rintro e x3 ⟨rfl, g2⟩
        rw [C2.out]
        have G3 := Lib.hid (gbT G2.out g2)
        have A3 := Lib.hid (Blk.grow A2.out g2)
        have s2 : ¬ ((l - szB m.bk - m.st.length - m.pos.length : Nat) : Int) < 0 := by omega
        clear g2
        go_wp2_with fail
        go_ret
        exact ⟨retI (by have := Y0.out; have := Y1.out; have := Y2.out; rw [szO_yes (by unfold OM.sz; omega)]; unfold OM.sz; omega), G3.out⟩
      · have C2 := Lib.hid (szO_no (Nat.lt_of_not_le b2))
        have N2 := Lib.hid b2
        clear b2
        go_enter Try.func21, Try.ntmps21
        go_wp2_with fail
        refine (szBlockSS_z m.bk u0 (l) _ (CS.grow _ H0.out G0.out) (by omega)).mono ?_
        rintro e x1 ⟨rfl, g0⟩
        rw [C0.out]
        have G1 := Lib.hid (gbT G0.out g0)
        have A1 := Lib.hid (Blk.grow A0.out g0)
        have c1 := A1.out.cell 1
        simp at c1
        have s0 : ¬ ((l - szB m.bk : Nat) : Int) < 0 := by omega
        clear g0
        go_wp2_with fail
        refine (szBlockS_k m.st u1 (l - szB m.bk) _ (CS.grow _ H1.out G1.out) (by omega)).mono ?_
        rintro e x2 ⟨rfl, g1⟩
        rw [C1.out]
        have G2 := Lib.hid (gbT G1.out g1)
        have A2 := Lib.hid (Blk.grow A1.out g1)
        have c2 := A2.out.cell 2
        simp at c2
        have s1 : ¬ ((l - szB m.bk - m.st.length : Nat) : Int) < 0 := by omega
        clear g1
        go_wp2_with fail
        refine (szIntS_k m.pos u2 (l - szB m.bk - m.st.length) _ (CS.grow _ H2.out G2.out) (by omega)).mono ?_
        rintro e x3 ⟨rfl, g2⟩
        rw [C2.out]
        have G3 := Lib.hid (gbT G2.out g2)
        have A3 := Lib.hid (Blk.grow A2.out g2)
        clear g2
        go_wp2_with fail
        go_ret
        exact ⟨retI (by rw [szO_no]; have := N2.out; have := Y0.out; have := Y1.out; unfold OM.sz; omega), G3.out⟩
    · have C1 := Lib.hid (szO_no (Nat.lt_of_not_le b1))
      have N1 := Lib.hid b1
      clear b1
      go_enter Try.func21, Try.ntmps21
      go_wp2_with fail
      refine (szBlockSS_z m.bk u0 (l) _ (CS.grow _ H0.out G0.out) (by omega)).mono ?_
      rintro e x1 ⟨rfl, g0⟩
      rw [C0.out]
      have G1 := Lib.hid (gbT G0.out g0)
      have A1 := Lib.hid (Blk.grow A0.out g0)
      have c1 := A1.out.cell 1
      simp at c1
      have s0 : ¬ ((l - szB m.bk : Nat) : Int) < 0 := by omega
      clear g0
      go_wp2_with fail
      refine (szBlockS_k m.st u1 (l - szB m.bk) _ (CS.grow _ H1.out G1.out) (by omega)).mono ?_
      rintro e x2 ⟨rfl, g1⟩
      rw [C1.out]
      have G2 := Lib.hid (gbT G1.out g1)
      have A2 := Lib.hid (Blk.grow A1.out g1)
      clear g1
      go_wp2_with fail
      go_ret
      exact ⟨retI (by rw [szO_no]; have := N1.out; have := Y0.out; unfold OM.sz; omega), G2.out⟩
  · have C0 := Lib.hid (szO_no (Nat.lt_of_not_le b0))
    have N0 := Lib.hid b0
    clear b0
    go_enter Try.func21, Try.ntmps21
    go_wp2_with fail
    refine (szBlockSS_z m.bk u0 (l) _ (CS.grow _ H0.out G0.out) (by omega)).mono ?_
    rintro e x1 ⟨rfl, g0⟩
    rw [C0.out]
    have G1 := Lib.hid (gbT G0.out g0)
    have A1 := Lib.hid (Blk.grow A0.out g0)
    clear g0
    go_wp2_with fail
    go_ret
    exact ⟨retI (by rw [szO_no]; have := N0.out; unfold OM.sz; omega), G1.out⟩
set_option maxHeartbeats 1000000 in
theorem markOram_k (m : OM) (v : Value) (F : List Nat) (k : Int) (w : World) (h : AggO w (coram m) F v) (hn : m.sz ≤ 1048576) (h0 : 0 ≤ k) (h1 : k ≤ 17179869184) :
    Calls Try.prog 26 #[v, .int .i64 k] w fun e w' => e = .returned (.int .i64 (m.cnt k)) ∧ AggO w' (coram (m.mkd k)) F v ∧ Chg (fun g => g ∈ F) w w' := by
  obtain ⟨u0, u1, u2, F0, F1, F2, rfl, rfl, h0, h1, h2, d01, d02, d12⟩ := coram_oopen h
  have q0 : szB m.bk ≤ 1048576 := by unfold OM.sz at hn; omega
  have qq0 := cntB_bd q0
  have q1 : m.st.length ≤ 1048576 := by unfold OM.sz at hn; omega
  have q2 : m.pos.length ≤ 1048576 := by unfold OM.sz at hn; omega
  have V0 : Hid (∀ g ∈ F0, g < w.heap.size) := CS.lt _ h0
  have V1 : Hid (∀ g ∈ F1, g < w.heap.size) := CS.lt _ h1
  have V2 : Hid (∀ g ∈ F2, g < w.heap.size) := CS.lt _ h2
  have D01 := Lib.hid d01
  have D02 := Lib.hid d02
  have D12 := Lib.hid d12
  have A0 := Lib.hid (Blk.new w 36 #[u0, u1, u2])
  have G0 := Lib.hid (gbA (gbR w none) (.cells #[u0, u1, u2] 36))
  have P0 := Lib.hid (own_growK _ h0 G0.out)
  have P1 := Lib.hid (own_growK _ h1 G0.out)
  have P2 := Lib.hid (own_growK _ h2 G0.out)
  have M0 : Hid (Chg (fun g => g ∈ [F0, F1, F2].flatten) (w.alloc (.cells #[u0, u1, u2] 36)) (w.alloc (.cells #[u0, u1, u2] 36))) := Chg.refl _ _
  clear h hn h0 h1 h2 d01 d02 d12
  go_enter Try.func26, Try.ntmps26
  go_wp2_with fail
  refine (markBlockSS_z m.bk u0 F0 (k) _ P0.out (by omega) (by omega) (by omega)).mono ?_
  rintro e x1 ⟨rfl, o0, g0⟩
  have N0 := Lib.hid o0
  have E := Lib.hid (own_chgK _ P1.out g0 (fun g hg hg' => D01.out g hg' hg))
  clear P1
  have P1 := E
  clear E
  have E := Lib.hid (own_chgK _ P2.out g0 (fun g hg hg' => D02.out g hg' hg))
  clear P2
  have P2 := E
  clear E
  clear P0
  have P0 := N0
  clear N0
  have A1 := Lib.hid (blk_chg A0.out g0 (fun hg => by have := V0.out _ hg; omega))
  have M1 := Lib.hid (M0.out.trans (g0.mono (fun g hg => by simp [hg])))
  clear o0 g0 A0 M0
  have c1 := A1.out.cell 1
  simp at c1
  go_wp2_with fail
  refine (markBlockS_k m.st u1 F1 (k + cntB m.bk) _ P1.out (by omega) (by omega) (by omega)).mono ?_
  rintro e x2 ⟨rfl, o1, g1⟩
  have N1 := Lib.hid o1
  have E := Lib.hid (own_chgK _ P0.out g1 (fun g hg hg' => D01.out g hg hg'))
  clear P0
  have P0 := E
  clear E
  have E := Lib.hid (own_chgK _ P2.out g1 (fun g hg hg' => D12.out g hg' hg))
  clear P2
  have P2 := E
  clear E
  clear P1
  have P1 := N1
  clear N1
  have A2 := Lib.hid (blk_chg A1.out g1 (fun hg => by have := V1.out _ hg; omega))
  have M2 := Lib.hid (M1.out.trans (g1.mono (fun g hg => by simp [hg])))
  clear o1 g1 A1 M1
  have c2 := A2.out.cell 2
  simp at c2
  go_wp2_with fail
  refine (markIntS_k m.pos u2 F2 (k + cntB m.bk + 2 * m.st.length) _ P2.out (by omega) (by omega) (by omega)).mono ?_
  rintro e x3 ⟨rfl, o2, g2⟩
  have N2 := Lib.hid o2
  have E := Lib.hid (own_chgK _ P0.out g2 (fun g hg hg' => D02.out g hg hg'))
  clear P0
  have P0 := E
  clear E
  have E := Lib.hid (own_chgK _ P1.out g2 (fun g hg hg' => D12.out g hg hg'))
  clear P1
  have P1 := E
  clear E
  clear P2
  have P2 := N2
  clear N2
  have A3 := Lib.hid (blk_chg A2.out g2 (fun hg => by have := V2.out _ hg; omega))
  have M3 := Lib.hid (M2.out.trans (g2.mono (fun g hg => by simp [hg])))
  clear o2 g2 A2 M2
  go_wp2_with fail
  go_ret
  have hM := M3.out
  refine ⟨rfl, coram_omk (m := m.mkd k) P0.out P1.out P2.out D01.out D02.out D12.out, ⟨hM.os, hM.tape, hM.output, Nat.le_trans G0.out.size hM.size, fun i hi hs => (hM.block i (Nat.lt_of_lt_of_le hi G0.out.size) hs).trans (G0.out.block i hi (by simp))⟩⟩
set_option maxHeartbeats 1000000 in
theorem heldOram_k (m : OM) (v : Value) (k : Int) (w : World) (h : AggR w (coram (m.mkd k)) v) (hn : m.sz ≤ 1048576) (h0 : 0 ≤ k) (h1 : k ≤ 17179869184) :
    Calls Try.prog 30 #[v, .int .i64 k] w fun e w' => e = .returned (.int .i64 (m.cnt k)) ∧ w.grownBy w' none := by
  obtain ⟨u0, u1, u2, rfl, h0, h1, h2⟩ := coram_open h
  have q0 : szB m.bk ≤ 1048576 := by unfold OM.sz at hn; omega
  have qq0 := cntB_bd q0
  have q1 : m.st.length ≤ 1048576 := by unfold OM.sz at hn; omega
  have q2 : m.pos.length ≤ 1048576 := by unfold OM.sz at hn; omega
  have A0 := Lib.hid (Blk.new w 36 #[u0, u1, u2])
  have G0 := Lib.hid (gbA (gbR w none) (.cells #[u0, u1, u2] 36))
  have P0 := Lib.hid h0
  have P1 := Lib.hid h1
  have P2 := Lib.hid h2
  clear h hn h0 h1 h2
  go_enter Try.func30, Try.ntmps30
  go_wp2_with fail
  refine (heldBlockSS_z m.bk u0 (k) _ (CS.grow _ P0.out G0.out) (by omega) (by omega) (by omega)).mono ?_
  rintro e x1 ⟨rfl, g0⟩
  have A1 := Lib.hid (Blk.grow A0.out g0)
  have G1 := Lib.hid (gbT G0.out g0)
  clear g0 A0
  have c1 := A1.out.cell 1
  simp at c1
  have s0 : ¬ k + cntB m.bk < 0 := by omega
  go_wp2_with fail
  refine (heldBlockS_k m.st.length u1 (k + cntB m.bk) _ (CS.grow _ P1.out G1.out) (by omega) (by omega) (by omega)).mono ?_
  rintro e x2 ⟨rfl, g1⟩
  have A2 := Lib.hid (Blk.grow A1.out g1)
  have G2 := Lib.hid (gbT G1.out g1)
  clear g1 A1
  have c2 := A2.out.cell 2
  simp at c2
  have s1 : ¬ k + cntB m.bk + 2 * m.st.length < 0 := by omega
  go_wp2_with fail
  refine (heldIntS_k m.pos.length u2 (k + cntB m.bk + 2 * m.st.length) _ (CS.grow _ P2.out G2.out) (by omega) (by omega) (by omega)).mono ?_
  rintro e x3 ⟨rfl, g2⟩
  have A3 := Lib.hid (Blk.grow A2.out g2)
  have G3 := Lib.hid (gbT G2.out g2)
  clear g2 A2
  have s2 : ¬ k + cntB m.bk + 2 * m.st.length + m.pos.length < 0 := by omega
  go_wp2_with fail
  go_ret
  exact ⟨rfl, G3.out⟩
end Go.Proofs.Ythncoohkdmjcaaa
