/-
  The laws' helpers on Keys, by what it reads as (printed by wip/gen_sk.py).
-/
import Derived.Test.YthaadgdeadbhkaaMgFnExactEngineNew9
namespace Go.Proofs.Ythaadgdeadbhkaa
open Go.RowKit
set_option linter.unusedVariables false
set_option linter.unusedSimpArgs false
structure KM where
  p : Int
  al : List Int
abbrev ckeys (m : KM) : List CS := [ci m.p, cints m.al]
def KM.sz (m : KM) : Nat := m.al.length
def KM.cnt (k : Int) (m : KM) : Int := k + m.al.length
def KM.mkd (k : Int) (m : KM) : KM := { m with al := marks (k) m.al.length }
def KM.wf (m : KM) : Prop := i64w m.p ∧ (∀ z ∈ m.al, i64w z)
theorem stKeys : St Try.prog 26 2 := ⟨⟨_, Try.underlying26, rfl⟩, by kernel_rfl⟩
theorem ckeys_open {w : World} {m : KM} {v : Value} (h : AggR w (ckeys m) v) : ∃ u1, v = .agg #[(.int .i64 m.p), u1] ∧ (cints m.al).rd w u1 := by
  obtain ⟨vs, rfl, h⟩ := h
  obtain ⟨u0, vs0, rfl, h0, h⟩ := RdAll.head h
  obtain ⟨u1, vs1, rfl, h1, h⟩ := RdAll.head h
  obtain rfl := RdAll.none h
  obtain rfl := ci_rd h0
  exact ⟨u1, rfl, h1⟩
theorem ckeys_mk {w : World} {m : KM} {u1 : Value} (h1 : (cints m.al).rd w u1) : AggR w (ckeys m) (.agg #[(.int .i64 m.p), u1]) := ⟨_, rfl, (RdAll.cons (ci_mk _ _) (RdAll.cons h1 (RdAll.nil _)))⟩
theorem ckeys_oform {w : World} {m : KM} {F : List Nat} {v : Value} (h : AggO w (ckeys m) F v) : ∃ (A1 : Option Addr) (n1 s1 : Nat), v = .agg #[(.int .i64 m.p), (.slice A1 n1 s1)] := by
  obtain ⟨vs, Fs, rfl, h, rfl⟩ := h
  obtain ⟨u0, vs0, F0, Fs0, rfl, rfl, h0, h, d0⟩ := OwnAll.head h
  obtain ⟨u1, vs1, F1, Fs1, rfl, rfl, h1, h, d1⟩ := OwnAll.head h
  obtain ⟨rfl, rfl⟩ := OwnAll.none h
  obtain ⟨rfl, rfl, _⟩ := h0
  obtain ⟨A1, n1, s1, rfl⟩ := row_form h1
  exact ⟨A1, n1, s1, rfl⟩
theorem ckeys_oopen {w : World} {m : KM} {F : List Nat} {v : Value} (h : AggO w (ckeys m) F v) : ∃ u1 F1, v = .agg #[(.int .i64 m.p), u1] ∧ F = [[], F1].flatten ∧ (cints m.al).own w F1 u1 := by
  obtain ⟨vs, Fs, rfl, h, rfl⟩ := h
  obtain ⟨u0, vs0, F0, Fs0, rfl, rfl, h0, h, d0⟩ := OwnAll.head h
  obtain ⟨u1, vs1, F1, Fs1, rfl, rfl, h1, h, d1⟩ := OwnAll.head h
  obtain ⟨rfl, rfl⟩ := OwnAll.none h
  obtain ⟨rfl, rfl, _⟩ := h0
  exact ⟨u1, F1, rfl, rfl, h1⟩
theorem ckeys_omk {w : World} {m : KM} {u1 : Value} {F1 : List Nat} (h1 : (cints m.al).own w F1 u1)  : AggO w (ckeys m) [[], F1].flatten (.agg #[(.int .i64 m.p), u1]) := ⟨_, _, rfl, (OwnAll.cons (ci_own _ _) (OwnAll.cons h1 (OwnAll.nil _) (fun g hg => by simp)) (by simp)), rfl⟩
set_option maxHeartbeats 1000000 in
theorem toKeys_k (m : KM) (v : Value) (w : World) (h : AggR w (ckeys m) v) (hn : m.sz ≤ 1048576) :
    Calls Try.prog 36 #[v] w fun e w' => ∃ u F, e = .returned u ∧ AggO w' (ckeys m) F u ∧ (∀ g ∈ F, w.heap.size ≤ g) ∧ w.grownBy w' none := by
  obtain ⟨u1, rfl, h1⟩ := ckeys_open h
  have HN := Lib.hid hn
  have H1 := Lib.hid h1
  clear h hn h1
  go_enter Try.func36, Try.ntmps36
  go_wp2_with fail
  obtain ⟨x0, e0⟩ : ∃ x : World, x = ((w.alloc (.cells #[(.int .i64 m.p), u1] 58)).alloc (.cells #[(.int .i64 0), (.slice none 0 0)] 26)).alloc (.cells #[(.int .i64 m.p), (.slice none 0 0)] 26) := ⟨_, rfl⟩
  have A1 : Hid (Blk x0 w.heap.size 58 #[(.int .i64 m.p), u1]) := by rw [e0]; exact ((Blk.new w _ _).grow (gbA (gbR _ _) _)).grow (gbA (gbR _ _) _)
  have A2 : Hid (Blk x0 (w.heap.size + 1) 26 #[(.int .i64 0), (.slice none 0 0)]) := by rw [e0]; exact (Blk.new' _ _ _ _ (by simp)).grow (gbA (gbR _ _) _)
  have A3 : Hid (Blk x0 (w.heap.size + 1 + 1) 26 #[(.int .i64 m.p), (.slice none 0 0)]) := by rw [e0]; exact Blk.new' _ _ _ _ (by simp)
  have G0 : Hid (w.grownBy x0 none) := by rw [e0]; exact gbA (gbA (gbA (gbR _ _) _) _) _
  have Z0 : x0.heap.size = w.heap.size + 1 + 1 + 1 := by rw [e0]; simp
  try rw [← e0]
  clear e0
  have R := CS.grow _ H1.out G0.out
  refine (toIntS_k m.al u1 _ R (by have := HN.out; unfold KM.sz at this; omega)).mono ?_
  rintro e x1 ⟨v1, F1, rfl, o1, l1, g1⟩
  obtain ⟨B1, n1, s1, rfl⟩ := row_form o1
  have Z1 := g1.size
  try simp at Z1
  have L1 : Hid (∀ g ∈ F1, x0.heap.size ≤ g) := fun g hg => by have := l1 g hg; simpa using this
  have O1 := Lib.hid o1
  have Q1 : Hid (∀ g ∈ F1, g < x1.heap.size) := fun g hg => CS.lt _ o1 g hg
  have E1 := Lib.hid (Blk.grow (A1.out) g1)
  have E2 := Lib.hid (Blk.grow (A2.out) g1)
  have E3 := Lib.hid (Blk.grow (A3.out) g1)
  have G1 := Lib.hid (gbT (G0.out) g1)
  clear R l1 g1 o1 A1 A2 A3 G0
  have A1 := E1
  have A2 := E2
  have A3 := E3
  clear E1 E2 E3
  have K2 := Lib.hid ((((A2.out).far (p := ⟨w.heap.size + 1 + 1, 1, none⟩) (by first | (simp; done) | (simp; omega)) (.slice B1 n1 s1)).set_ 0 (.int .i64 m.p)).set_ 1 (.slice B1 n1 s1))
  have KG := Lib.hid (gbS (gbS (gbS (G1.out) (p := ⟨w.heap.size + 1 + 1, 1, none⟩) (by simp; omega) (.slice B1 n1 s1)) (p := ⟨w.heap.size + 1, 0, none⟩) (by simp) (.int .i64 m.p)) (p := ⟨w.heap.size + 1, 1, none⟩) (by simp) (.slice B1 n1 s1))
  have P1 := Lib.hid (own_setK _ (own_setK _ (own_setK _ (O1.out) ⟨w.heap.size + 1 + 1, 1, none⟩ (fun hg => by have := L1.out _ hg; simp at this; omega) (.slice B1 n1 s1)) ⟨w.heap.size + 1, 0, none⟩ (fun hg => by have := L1.out _ hg; simp at this; omega) (.int .i64 m.p)) ⟨w.heap.size + 1, 1, none⟩ (fun hg => by have := L1.out _ hg; simp at this; omega) (.slice B1 n1 s1))
  have d := A3.out
  have d0 := A3.out.cell 0
  have f0 := A3.out.frozen 0
  have b0 := A2.out.cell 0
  have t0 := A2.out.frozen 0
  have d1 := A3.out.cell 1
  have f1 := A3.out.frozen 1
  have b1 := A2.out.cell 1
  have t1 := A2.out.frozen 1
  clear d
  simp at d0 d1 b0 b1
  clear A1 A2 A3 G1
  go_wp2_with fail
  refine ret_c Try.results36 (by rfl) stKeys (cs := #[(.int .i64 m.p), (.slice B1 n1 s1)]) ?B (by rfl) (by rfl) ?_
  case B => exact K2.out
  refine ⟨_, _, rfl, ckeys_omk P1.out , fun g hg => ?_, KG.out⟩
  simp at hg
  skip
  have := L1.out g hg; omega
set_option maxHeartbeats 1000000 in
theorem eqKeys_k (m : KM) (v u : Value) (w : World) (h : AggR w (ckeys m) v) (k : AggR w (ckeys m) u) (hn : m.sz ≤ 1048576) :
    Calls Try.prog 40 #[v, u] w fun e w' => e = .returned (.bool true) ∧ w.grownBy w' none := by
  obtain ⟨u1, rfl, h1⟩ := ckeys_open h
  obtain ⟨t1, rfl, k1⟩ := ckeys_open k
  have HN := Lib.hid hn
  have H1 := Lib.hid h1
  have K1 := Lib.hid k1
  clear h k hn h1 k1
  go_enter Try.func40, Try.ntmps40
  have A1 : Hid (Blk ((w.alloc (.cells #[(.int .i64 m.p), u1] 26)).alloc (.cells #[(.int .i64 m.p), t1] 26)) w.heap.size 26 #[(.int .i64 m.p), u1]) := (Blk.new w _ _).grow (gbA (gbR _ _) _)
  have A2 : Hid (Blk ((w.alloc (.cells #[(.int .i64 m.p), u1] 26)).alloc (.cells #[(.int .i64 m.p), t1] 26)) (w.heap.size + 1) 26 #[(.int .i64 m.p), t1]) := Blk.new' _ _ _ _ (by simp)
  have G0 : Hid (w.grownBy ((w.alloc (.cells #[(.int .i64 m.p), u1] 26)).alloc (.cells #[(.int .i64 m.p), t1] 26)) none) := gbA (gbA (gbR _ _) _) _
  go_wp2_with fail
  refine (eqIntS_k m.al u1 t1 _ (CS.grow _ H1.out G0.out) (CS.grow _ K1.out G0.out) (by have := HN.out; unfold KM.sz at this; omega)).mono ?_
  rintro e x1 ⟨rfl, g1⟩
  have G1 := Lib.hid (gbT G0.out g1)
  have E1 := Lib.hid (Blk.grow A1.out g1)
  have E2 := Lib.hid (Blk.grow A2.out g1)
  clear A1 A2 g1
  have A1 := E1
  have A2 := E2
  clear E1 E2
  go_wp2_with fail
  go_ret
  exact ⟨rfl, G1.out⟩
set_option maxHeartbeats 1000000 in
theorem szKeys_k (m : KM) (v : Value) (l : Nat) (w : World) (h : AggR w (ckeys m) v) (hl : l ≤ 1048576) :
    Calls Try.prog 34 #[v, .int .i64 l] w fun e w' => e = .returned (.int .i64 (szO l m.sz)) ∧ w.grownBy w' none := by
  obtain ⟨u1, rfl, h1⟩ := ckeys_open h
  have H1 := Lib.hid h1
  clear h h1
  have A0 := Lib.hid (Blk.new w 58 #[(.int .i64 m.p), u1])
  have G0 := Lib.hid (gbA (gbR w none) (.cells #[(.int .i64 m.p), u1] 58))
  by_cases b0 : m.al.length ≤ l
  · have C0 := Lib.hid (szO_yes b0)
    have Y0 := Lib.hid b0
    clear b0
    go_enter Try.func34, Try.ntmps34
    go_wp2_with fail
    refine (szIntS_k m.al u1 (l) _ (CS.grow _ H1.out G0.out) (by omega)).mono ?_
    rintro e x1 ⟨rfl, g1⟩
    rw [C0.out]
    have G1 := Lib.hid (gbT G0.out g1)
    have A1 := Lib.hid (Blk.grow A0.out g1)
    have s0 : ¬ ((l - m.al.length : Nat) : Int) < 0 := by omega
    clear g1
    go_wp2_with fail
    go_ret
    exact ⟨retI (by have := Y0.out; rw [szO_yes (by unfold KM.sz; omega)]; unfold KM.sz; omega), G1.out⟩
  · have C0 := Lib.hid (szO_no (Nat.lt_of_not_le b0))
    have N0 := Lib.hid b0
    clear b0
    go_enter Try.func34, Try.ntmps34
    go_wp2_with fail
    refine (szIntS_k m.al u1 (l) _ (CS.grow _ H1.out G0.out) (by omega)).mono ?_
    rintro e x1 ⟨rfl, g1⟩
    rw [C0.out]
    have G1 := Lib.hid (gbT G0.out g1)
    have A1 := Lib.hid (Blk.grow A0.out g1)
    clear g1
    go_wp2_with fail
    go_ret
    exact ⟨retI (by rw [szO_no]; have := N0.out; unfold KM.sz; omega), G1.out⟩
set_option maxHeartbeats 1000000 in
theorem markKeys_k (m : KM) (v : Value) (F : List Nat) (k : Int) (w : World) (h : AggO w (ckeys m) F v) (hn : m.sz ≤ 1048576) (h0 : 0 ≤ k) (h1 : k ≤ 17179869184) :
    Calls Try.prog 42 #[v, .int .i64 k] w fun e w' => e = .returned (.int .i64 (m.cnt k)) ∧ AggO w' (ckeys (m.mkd k)) F v ∧ Chg (fun g => g ∈ F) w w' := by
  obtain ⟨u1, F1, rfl, rfl, h1⟩ := ckeys_oopen h
  have q1 : m.al.length ≤ 1048576 := by unfold KM.sz at hn; omega
  have V1 : Hid (∀ g ∈ F1, g < w.heap.size) := CS.lt _ h1
  have A0 := Lib.hid (Blk.new w 26 #[(.int .i64 m.p), u1])
  have G0 := Lib.hid (gbA (gbR w none) (.cells #[(.int .i64 m.p), u1] 26))
  have P1 := Lib.hid (own_growK _ h1 G0.out)
  have M0 : Hid (Chg (fun g => g ∈ [[], F1].flatten) (w.alloc (.cells #[(.int .i64 m.p), u1] 26)) (w.alloc (.cells #[(.int .i64 m.p), u1] 26))) := Chg.refl _ _
  clear h hn h1
  go_enter Try.func42, Try.ntmps42
  go_wp2_with fail
  refine (markIntS_k m.al u1 F1 (k) _ P1.out (by omega) (by omega) (by omega)).mono ?_
  rintro e x1 ⟨rfl, o1, g1⟩
  have N1 := Lib.hid o1
  clear P1
  have P1 := N1
  clear N1
  have A1 := Lib.hid (blk_chg A0.out g1 (fun hg => by have := V1.out _ hg; omega))
  have M1 := Lib.hid (M0.out.trans (g1.mono (fun g hg => by simp [hg])))
  clear o1 g1 A0 M0
  go_wp2_with fail
  go_ret
  have hM := M1.out
  refine ⟨rfl, ckeys_omk (m := m.mkd k) P1.out , ⟨hM.os, hM.tape, hM.output, Nat.le_trans G0.out.size hM.size, fun i hi hs => (hM.block i (Nat.lt_of_lt_of_le hi G0.out.size) hs).trans (G0.out.block i hi (by simp))⟩⟩
set_option maxHeartbeats 1000000 in
theorem heldKeys_k (m : KM) (v : Value) (k : Int) (w : World) (h : AggR w (ckeys (m.mkd k)) v) (hn : m.sz ≤ 1048576) (h0 : 0 ≤ k) (h1 : k ≤ 17179869184) :
    Calls Try.prog 104 #[v, .int .i64 k] w fun e w' => e = .returned (.int .i64 (m.cnt k)) ∧ w.grownBy w' none := by
  obtain ⟨u1, rfl, h1⟩ := ckeys_open h
  have q1 : m.al.length ≤ 1048576 := by unfold KM.sz at hn; omega
  have A0 := Lib.hid (Blk.new w 26 #[(.int .i64 (m.mkd k).p), u1])
  have G0 := Lib.hid (gbA (gbR w none) (.cells #[(.int .i64 (m.mkd k).p), u1] 26))
  have P1 := Lib.hid h1
  clear h hn h1
  go_enter Try.func104, Try.ntmps104
  go_wp2_with fail
  refine (heldIntS_k m.al.length u1 (k) _ (CS.grow _ P1.out G0.out) (by omega) (by omega) (by omega)).mono ?_
  rintro e x1 ⟨rfl, g1⟩
  have A1 := Lib.hid (Blk.grow A0.out g1)
  have G1 := Lib.hid (gbT G0.out g1)
  clear g1 A0
  have s0 : ¬ k + m.al.length < 0 := by omega
  go_wp2_with fail
  go_ret
  exact ⟨rfl, G1.out⟩
end Go.Proofs.Ythaadgdeadbhkaa
/-
  The laws' helpers on Auth, by what it reads as (printed by wip/gen_sk.py).
-/
namespace Go.Proofs.Ythaadgdeadbhkaa
open Go.RowKit
set_option linter.unusedVariables false
set_option linter.unusedSimpArgs false
structure AuM where
  sh : List Int
  mc : List Int
abbrev cauth (m : AuM) : List CS := [cints m.sh, cints m.mc]
def AuM.sz (m : AuM) : Nat := m.sh.length + m.mc.length
def AuM.cnt (k : Int) (m : AuM) : Int := k + m.sh.length + m.mc.length
def AuM.mkd (k : Int) (m : AuM) : AuM := { m with sh := marks (k) m.sh.length, mc := marks (k + m.sh.length) m.mc.length }
def AuM.wf (m : AuM) : Prop := (∀ z ∈ m.sh, i64w z) ∧ (∀ z ∈ m.mc, i64w z)
theorem stAuth : St Try.prog 44 2 := ⟨⟨_, Try.underlying44, rfl⟩, by kernel_rfl⟩
theorem cauth_open {w : World} {m : AuM} {v : Value} (h : AggR w (cauth m) v) : ∃ u0 u1, v = .agg #[u0, u1] ∧ (cints m.sh).rd w u0 ∧ (cints m.mc).rd w u1 := by
  obtain ⟨vs, rfl, h⟩ := h
  obtain ⟨u0, vs0, rfl, h0, h⟩ := RdAll.head h
  obtain ⟨u1, vs1, rfl, h1, h⟩ := RdAll.head h
  obtain rfl := RdAll.none h
  exact ⟨u0, u1, rfl, h0, h1⟩
theorem cauth_mk {w : World} {m : AuM} {u0 u1 : Value} (h0 : (cints m.sh).rd w u0) (h1 : (cints m.mc).rd w u1) : AggR w (cauth m) (.agg #[u0, u1]) := ⟨_, rfl, (RdAll.cons h0 (RdAll.cons h1 (RdAll.nil _)))⟩
theorem cauth_oform {w : World} {m : AuM} {F : List Nat} {v : Value} (h : AggO w (cauth m) F v) : ∃ (A0 : Option Addr) (n0 s0 : Nat) (A1 : Option Addr) (n1 s1 : Nat), v = .agg #[(.slice A0 n0 s0), (.slice A1 n1 s1)] := by
  obtain ⟨vs, Fs, rfl, h, rfl⟩ := h
  obtain ⟨u0, vs0, F0, Fs0, rfl, rfl, h0, h, d0⟩ := OwnAll.head h
  obtain ⟨u1, vs1, F1, Fs1, rfl, rfl, h1, h, d1⟩ := OwnAll.head h
  obtain ⟨rfl, rfl⟩ := OwnAll.none h
  obtain ⟨A0, n0, s0, rfl⟩ := row_form h0
  obtain ⟨A1, n1, s1, rfl⟩ := row_form h1
  exact ⟨A0, n0, s0, A1, n1, s1, rfl⟩
theorem cauth_oopen {w : World} {m : AuM} {F : List Nat} {v : Value} (h : AggO w (cauth m) F v) : ∃ u0 u1 F0 F1, v = .agg #[u0, u1] ∧ F = [F0, F1].flatten ∧ (cints m.sh).own w F0 u0 ∧ (cints m.mc).own w F1 u1 ∧ (∀ g ∈ F0, g ∉ F1) := by
  obtain ⟨vs, Fs, rfl, h, rfl⟩ := h
  obtain ⟨u0, vs0, F0, Fs0, rfl, rfl, h0, h, d0⟩ := OwnAll.head h
  obtain ⟨u1, vs1, F1, Fs1, rfl, rfl, h1, h, d1⟩ := OwnAll.head h
  obtain ⟨rfl, rfl⟩ := OwnAll.none h
  exact ⟨u0, u1, F0, F1, rfl, rfl, h0, h1, fun g hg hg' => d0 g hg (by simp [hg'])⟩
theorem cauth_omk {w : World} {m : AuM} {u0 u1 : Value} {F0 F1 : List Nat} (h0 : (cints m.sh).own w F0 u0) (h1 : (cints m.mc).own w F1 u1) (d01 : ∀ g ∈ F0, g ∉ F1) : AggO w (cauth m) [F0, F1].flatten (.agg #[u0, u1]) := ⟨_, _, rfl, (OwnAll.cons h0 (OwnAll.cons h1 (OwnAll.nil _) (fun g hg => by simp)) (fun g hg => by simp [d01 g hg])), rfl⟩
set_option maxHeartbeats 1000000 in
theorem eqAuth_k (m : AuM) (v u : Value) (w : World) (h : AggR w (cauth m) v) (k : AggR w (cauth m) u) (hn : m.sz ≤ 1048576) :
    Calls Try.prog 149 #[v, u] w fun e w' => e = .returned (.bool true) ∧ w.grownBy w' none := by
  obtain ⟨u0, u1, rfl, h0, h1⟩ := cauth_open h
  obtain ⟨t0, t1, rfl, k0, k1⟩ := cauth_open k
  have HN := Lib.hid hn
  have H0 := Lib.hid h0
  have K0 := Lib.hid k0
  have H1 := Lib.hid h1
  have K1 := Lib.hid k1
  clear h k hn h0 h1 k0 k1
  go_enter Try.func149, Try.ntmps149
  have A1 : Hid (Blk ((w.alloc (.cells #[u0, u1] 44)).alloc (.cells #[t0, t1] 44)) w.heap.size 44 #[u0, u1]) := (Blk.new w _ _).grow (gbA (gbR _ _) _)
  have A2 : Hid (Blk ((w.alloc (.cells #[u0, u1] 44)).alloc (.cells #[t0, t1] 44)) (w.heap.size + 1) 44 #[t0, t1]) := Blk.new' _ _ _ _ (by simp)
  have G0 : Hid (w.grownBy ((w.alloc (.cells #[u0, u1] 44)).alloc (.cells #[t0, t1] 44)) none) := gbA (gbA (gbR _ _) _) _
  go_wp2_with fail
  refine (eqIntS_k m.sh u0 t0 _ (CS.grow _ H0.out G0.out) (CS.grow _ K0.out G0.out) (by have := HN.out; unfold AuM.sz at this; omega)).mono ?_
  rintro e x1 ⟨rfl, g0⟩
  have G1 := Lib.hid (gbT G0.out g0)
  have E1 := Lib.hid (Blk.grow A1.out g0)
  have E2 := Lib.hid (Blk.grow A2.out g0)
  clear A1 A2 g0
  have A1 := E1
  have A2 := E2
  clear E1 E2
  have c1 := A1.out.cell 1
  have d1 := A2.out.cell 1
  simp at c1 d1
  go_wp2_with fail
  clear c1 d1
  refine (eqIntS_k m.mc u1 t1 _ (CS.grow _ H1.out G1.out) (CS.grow _ K1.out G1.out) (by have := HN.out; unfold AuM.sz at this; omega)).mono ?_
  rintro e x2 ⟨rfl, g1⟩
  have G2 := Lib.hid (gbT G1.out g1)
  have E1 := Lib.hid (Blk.grow A1.out g1)
  have E2 := Lib.hid (Blk.grow A2.out g1)
  clear A1 A2 g1
  have A1 := E1
  have A2 := E2
  clear E1 E2
  go_wp2_with fail
  go_ret
  exact ⟨rfl, G2.out⟩
end Go.Proofs.Ythaadgdeadbhkaa
