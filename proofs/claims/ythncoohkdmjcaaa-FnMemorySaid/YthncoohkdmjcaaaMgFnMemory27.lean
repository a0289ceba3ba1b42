/-
  An access to oblivious memory: what it answers, and the helpers that both sides call.
-/
import Derived.Test.YthncoohkdmjcaaaMgFnMemory26
import Derived.Test.YthncoohkdmjcaaaMgFnMemory20
import Derived.Test.YthncoohkdmjcaaaMgFnMemory21
namespace Go.Proofs.Ythncoohkdmjcaaa
open Go.RowKit
set_option linter.unusedVariables false
set_option linter.unusedSimpArgs false
def inR (z a b : Int) : Bool := decide (a ≤ z) && decide (z ≤ b)
theorem specIn_c (z a b : Int) (w : World) : Calls Try.prog 54 #[.int .i64 z, .int .i64 a, .int .i64 b] w fun e w' => e = .returned (.bool (inR z a b)) ∧ w = w' := by
  unfold inR
  by_cases h0 : a ≤ z
  · by_cases h1 : z ≤ b
    · have h0' : decide (a ≤ z) = true := by simp; omega
      have h1' : decide (z ≤ b) = true := by simp; omega
      rw [h0', h1']
      go_enter Try.func54, Try.ntmps54
      go_wp2_with fail
      go_ret
      first | exact ⟨rfl, rfl⟩ | exact ⟨retB (by simp <;> omega), rfl⟩
    · have h0' : decide (a ≤ z) = true := by simp; omega
      have h1' : decide (z ≤ b) = false := by simp; omega
      rw [h0', h1']
      go_enter Try.func54, Try.ntmps54
      go_wp2_with fail
      go_ret
      first | exact ⟨rfl, rfl⟩ | exact ⟨retB (by simp <;> omega), rfl⟩
  · have h0' : decide (a ≤ z) = false := by simp; omega
    rw [h0']
    go_enter Try.func54, Try.ntmps54
    go_wp2_with fail
    go_ret
    first | exact ⟨rfl, rfl⟩ | exact ⟨retB (by simp <;> omega), rfl⟩
theorem implIn_c (z a b : Int) (w : World) : Calls Try.prog 55 #[.int .i64 z, .int .i64 a, .int .i64 b] w fun e w' => e = .returned (.bool (inR z a b)) ∧ w = w' := by
  unfold inR
  by_cases h0 : a ≤ z
  · by_cases h1 : z ≤ b
    · have h0' : decide (a ≤ z) = true := by simp; omega
      have h1' : decide (z ≤ b) = true := by simp; omega
      rw [h0', h1']
      go_enter Try.func55, Try.ntmps55
      go_wp2_with fail
      go_ret
      first | exact ⟨rfl, rfl⟩ | exact ⟨retB (by simp <;> omega), rfl⟩
    · have h0' : decide (a ≤ z) = true := by simp; omega
      have h1' : decide (z ≤ b) = false := by simp; omega
      rw [h0', h1']
      go_enter Try.func55, Try.ntmps55
      go_wp2_with fail
      go_ret
      first | exact ⟨rfl, rfl⟩ | exact ⟨retB (by simp <;> omega), rfl⟩
  · have h0' : decide (a ≤ z) = false := by simp; omega
    rw [h0']
    go_enter Try.func55, Try.ntmps55
    go_wp2_with fail
    go_ret
    first | exact ⟨rfl, rfl⟩ | exact ⟨retB (by simp <;> omega), rfl⟩
theorem ret_c3t {P : Program} {fn : Func} {R : Ending → World → Prop} {a : Act} {w : World} {p r s t : Tmp} {T : TypeId} {g n : Nat} {cs : Array Value} (h : fn.results = #[.cell p T, .tmp r, .tmp s, .tmp t]) (hp : a.tmps.getD p undef = .pointer (some ⟨g, 0, none⟩)) (S : St P T n) (B : Blk w g T cs) (hn : cs.size = n)
    (hd : a.defers = []) (hR : R (.returned (.tuple #[.agg cs, a.tmps.getD r undef, a.tmps.getD s undef, a.tmps.getD t undef])) w) : bodyPost P fn R .ret a w := by
  refine bodyPost_ret (v := .tuple #[.agg cs, a.tmps.getD r undef, a.tmps.getD s undef, a.tmps.getD t undef]) ?_ hd hR
  have hp' : a.tmps[p]?.getD undef = .pointer (some ⟨g, 0, none⟩) := by simpa using hp
  simp [results, h, hp', asAddr, run_row S B hn]
theorem OSE.forms {lo g : Nat} {m : OM} {w : World} (h : OSE lo g m w) : ∃ A0 n0 c0 A1 c1 A2 c2 F0 F1 F2, OS lo g m (.slice A0 n0 c0) (.slice A1 m.st.length c1) (.slice A2 m.pos.length c2) F0 F1 F2 w := by
  obtain ⟨u0, u1, u2, F0, F1, F2, h⟩ := h
  obtain ⟨⟨A0, n0, c0, rfl⟩, ⟨A1, c1, rfl, _⟩, ⟨A2, c2, rfl, _⟩⟩ := h.forms
  exact ⟨_, _, _, _, _, _, _, _, _, _, h⟩
theorem OS.nb {lo g : Nat} {m : OM} {A0 : Option Addr} {n0 c0 : Nat} {u1 u2 : Value} {F0 F1 F2 : List Nat} {w : World} (h : OS lo g m (.slice A0 n0 c0) u1 u2 F0 F1 F2 w) : n0 = m.bk.length := by
  obtain ⟨A, c, hv, _⟩ := cbs_rd (CS.toRd _ h.b)
  injection hv
noncomputable def accB (m : OM) (id value leaf : Int) : Bool := oramB m && inR id 0 11 && wordB value && inR leaf 0 7
/-- What an access returns. -/
def AccJ (m : OM) (id : Int) (write : Bool) (value leaf : Int) (w : World) (e : Ending) (w' : World) : Prop :=
  ∃ V F, e = .returned (.tuple #[V, .int .i64 (if accB m id value leaf then accV m id else 0), .int .i64 (if accB m id value leaf then m.leaf id else 0), .bool (accB m id value leaf)]) ∧ AggO w' (coram (if accB m id value leaf then acc m id write value leaf else m)) F V ∧ (∀ g ∈ F, w.heap.size ≤ g) ∧ w.grownBy w' none
theorem AccJ.no {m : OM} {id value leaf : Int} {write : Bool} {w w' : World} {V : Value} {F : List Nat} (h : accB m id value leaf = false) (ha : AggO w' (coram m) F V) (hl : ∀ g ∈ F, w.heap.size ≤ g) (hg : w.grownBy w' none) : AccJ m id write value leaf w (.returned (.tuple #[V, .int .i64 0, .int .i64 0, .bool false])) w' := by
  refine ⟨V, F, ?_, ?_, hl, hg⟩
  · rw [h]; rfl
  · rw [h]; exact ha
theorem AccJ.yes {m : OM} {id value leaf : Int} {write : Bool} {w w' : World} {V : Value} {F : List Nat} (h : accB m id value leaf = true) (ha : AggO w' (coram (acc m id write value leaf)) F V) (hl : ∀ g ∈ F, w.heap.size ≤ g) (hg : w.grownBy w' none) : AccJ m id write value leaf w (.returned (.tuple #[V, .int .i64 (accV m id), .int .i64 (m.leaf id), .bool true])) w' := by
  refine ⟨V, F, ?_, ?_, hl, hg⟩
  · rw [h]; rfl
  · rw [h]; exact ha
set_option maxHeartbeats 4000000 in
set_option maxRecDepth 100000 in
theorem specOramAccess_no (m : OM) (v : Value) (id value leaf : Int) (write : Bool) (w : World) (h : AggR w (coram m) v) (hz : m.sz ≤ 1048576) (hb : accB m id value leaf = false) :
    Calls Try.prog 39 #[v, .int .i64 id, .bool write, .int .i64 value, .int .i64 leaf] w (AccJ m id write value leaf w) := by
  obtain ⟨u0, u1, u2, rfl, h0, h1, h2⟩ := coram_open h
  obtain ⟨A0, c0, rfl, hc0, hm0⟩ := cbs_rd h0
  obtain ⟨A1, c1, rfl, hc1, hm1, _⟩ := plst_rd (s := 2) (fun _ => rfl) (by omega) h1
  obtain ⟨A2, c2, rfl, hc2, hm2, _⟩ := cints_rd h2
  have HN := Lib.hid hz
  have HB := Lib.hid hb
  have HA := Lib.hid h
  clear h hz h0 h1 h2 hb
  go_enter Try.func39, Try.ntmps39
  go_wp2_with fail
  obtain ⟨x0, e0⟩ : ∃ x : World, x = (w.alloc (.cells #[.slice A0 m.bk.length c0, .slice A1 m.st.length c1, .slice A2 m.pos.length c2] 36)).alloc (.cells #[(.slice none 0 0), (.slice none 0 0), (.slice none 0 0)] 36) := ⟨_, rfl⟩
  have K1 : Hid (Blk x0 w.heap.size 36 #[.slice A0 m.bk.length c0, .slice A1 m.st.length c1, .slice A2 m.pos.length c2]) := by rw [e0]; exact (Blk.new w _ _).grow (gbA (gbR _ _) _)
  have K2 : Hid (Blk x0 (w.heap.size + 1) 36 #[(.slice none 0 0), (.slice none 0 0), (.slice none 0 0)]) := by rw [e0]; exact Blk.new' _ _ _ _ (by simp)
  have G0 : Hid (w.grownBy x0 none) := by rw [e0]; exact gbA (gbA (gbR _ _) _) _
  have Z0 : Hid (x0.heap.size = w.heap.size + 1 + 1) := by rw [e0]; exact Lib.hid (by simp)
  rw [← e0]
  clear e0
  have q0 := K1.out.cell 0
  have q1 := K1.out.cell 1
  have q2 := K1.out.cell 2
  simp at q0 q1 q2
  go_wp2_with fail
  refine (specl31Copy_c m _ _ (AggR.grow HA.out G0.out) HN.out).mono ?_
  rintro e x1 ⟨V, F, rfl, a1, l1, g1⟩
  obtain ⟨B0, n0, s0, B1, n1, s1, B2, n2, s2, rfl⟩ := coram_oform a1
  have hz1 := g1.size
  have OA := Lib.hid (OS.made (cs := #[]) (g := x1.heap.size) (lo := x0.heap.size) (Blk.new x1 36 #[.slice B0 n0 s0, .slice B1 n1 s1, .slice B2 n2 s2]) (a1.grow (gbA (gbR x1 none) (.cells #[.slice B0 n0 s0, .slice B1 n1 s1, .slice B2 n2 s2] 36))) l1 hz1 (fun hx => by have := a1.lt _ hx; omega))
  have GA := Lib.hid (gbT g1 (gbA (gbR x1 none) (.cells #[.slice B0 n0 s0, .slice B1 n1 s1, .slice B2 n2 s2] 36)))
  clear q0 q1 q2
  have q0 := (K1.out.grow g1).cell 0
  have q1 := (K1.out.grow g1).cell 1
  have q2 := (K1.out.grow g1).cell 2
  have qz := (K1.out.grow g1).lt
  simp at q0 q1 q2
  clear a1 l1 g1 hz1
  go_wp2_with fail
  obtain ⟨x2, e2⟩ : ∃ x2, x1.alloc (.cells #[.slice B0 n0 s0, .slice B1 n1 s1, .slice B2 n2 s2] 36) = x2 := ⟨_, rfl⟩
  rw [e2] at OA GA ⊢
  clear e2 q0 q1 q2 qz
  obtain ⟨G, hG⟩ : ∃ G, x1.heap.size = G := ⟨_, rfl⟩
  rw [hG] at OA ⊢
  clear hG
  refine (specOramOk_c m _ _ (AggR.grow HA.out (gbT G0.out GA.out)) (by have := HN.out; omega)).mono ?_
  rintro e x3 ⟨rfl, g3⟩
  have OB := Lib.hid (OA.out.grow g3)
  have GB := Lib.hid (gbT GA.out g3)
  clear g3 OA GA
  cases ho : oramB m with
  | false =>
    obtain ⟨A0, n0, c0, A1, c1, A2, c2, F0, F1, F2, hO⟩ := OSE.forms OB.out
    have HO := Lib.hid hO
    have v0 := hO.blk.cell 0
    have v1 := hO.blk.cell 1
    have v2 := hO.blk.cell 2
    have X2 := Lib.hid (K2.out.grow GB.out)
    have b0 := X2.out.cell 0
    have b1 := X2.out.cell 1
    have b2 := X2.out.cell 2
    have f0 := X2.out.frozen 0
    have f1 := X2.out.frozen 1
    have f2 := X2.out.frozen 2
    simp at v0 v1 v2 b0 b1 b2
    clear hO
    go_wp2_with fail
    refine ret_c3t Try.results39 (by rfl) stOram (cs := #[.slice A0 n0 c0, .slice A1 m.st.length c1, .slice A2 m.pos.length c2]) ?B (by rfl) (by rfl) ?_
    case B => exact fill3 X2.out rfl _ _ _
    have ha := HO.out.agg
    have hz := Z0.out
    exact AccJ.no HB.out (ha.1.chg (chgS3 _ _ _ _ _) (fun y hy e => by have := ha.2 y hy; omega)) (fun y hy => by have := ha.2 y hy; omega) (gbChg (gbT G0.out GB.out) (chgS3 _ _ _ _ _) (fun i hi => by omega))
  | true =>
    go_wp2_with fail
    refine (specIn_c id 0 11 _).mono ?_
    rintro e x4 ⟨rfl, rfl⟩
    cases hi : inR id 0 11 with
    | false =>
      obtain ⟨A0, n0, c0, A1, c1, A2, c2, F0, F1, F2, hO⟩ := OSE.forms OB.out
      have HO := Lib.hid hO
      have v0 := hO.blk.cell 0
      have v1 := hO.blk.cell 1
      have v2 := hO.blk.cell 2
      have X2 := Lib.hid (K2.out.grow GB.out)
      have b0 := X2.out.cell 0
      have b1 := X2.out.cell 1
      have b2 := X2.out.cell 2
      have f0 := X2.out.frozen 0
      have f1 := X2.out.frozen 1
      have f2 := X2.out.frozen 2
      simp at v0 v1 v2 b0 b1 b2
      clear hO
      go_wp2_with fail
      refine ret_c3t Try.results39 (by rfl) stOram (cs := #[.slice A0 n0 c0, .slice A1 m.st.length c1, .slice A2 m.pos.length c2]) ?B (by rfl) (by rfl) ?_
      case B => exact fill3 X2.out rfl _ _ _
      have ha := HO.out.agg
      have hz := Z0.out
      exact AccJ.no HB.out (ha.1.chg (chgS3 _ _ _ _ _) (fun y hy e => by have := ha.2 y hy; omega)) (fun y hy => by have := ha.2 y hy; omega) (gbChg (gbT G0.out GB.out) (chgS3 _ _ _ _ _) (fun i hi => by omega))
    | true =>
      go_wp2_with fail
      refine (specIsWord_c value _).mono ?_
      rintro e x4 ⟨rfl, rfl⟩
      cases hv : wordB value with
      | false =>
        obtain ⟨A0, n0, c0, A1, c1, A2, c2, F0, F1, F2, hO⟩ := OSE.forms OB.out
        have HO := Lib.hid hO
        have v0 := hO.blk.cell 0
        have v1 := hO.blk.cell 1
        have v2 := hO.blk.cell 2
        have X2 := Lib.hid (K2.out.grow GB.out)
        have b0 := X2.out.cell 0
        have b1 := X2.out.cell 1
        have b2 := X2.out.cell 2
        have f0 := X2.out.frozen 0
        have f1 := X2.out.frozen 1
        have f2 := X2.out.frozen 2
        simp at v0 v1 v2 b0 b1 b2
        clear hO
        go_wp2_with fail
        refine ret_c3t Try.results39 (by rfl) stOram (cs := #[.slice A0 n0 c0, .slice A1 m.st.length c1, .slice A2 m.pos.length c2]) ?B (by rfl) (by rfl) ?_
        case B => exact fill3 X2.out rfl _ _ _
        have ha := HO.out.agg
        have hz := Z0.out
        exact AccJ.no HB.out (ha.1.chg (chgS3 _ _ _ _ _) (fun y hy e => by have := ha.2 y hy; omega)) (fun y hy => by have := ha.2 y hy; omega) (gbChg (gbT G0.out GB.out) (chgS3 _ _ _ _ _) (fun i hi => by omega))
      | true =>
        go_wp2_with fail
        refine (specIn_c leaf 0 7 _).mono ?_
        rintro e x4 ⟨rfl, rfl⟩
        have hl : inR leaf 0 7 = false := by
          have h1 := HB.out
          unfold accB at h1
          rw [ho, hi, hv] at h1
          simpa using h1
        rw [hl]
        obtain ⟨A0, n0, c0, A1, c1, A2, c2, F0, F1, F2, hO⟩ := OSE.forms OB.out
        have HO := Lib.hid hO
        have v0 := hO.blk.cell 0
        have v1 := hO.blk.cell 1
        have v2 := hO.blk.cell 2
        have X2 := Lib.hid (K2.out.grow GB.out)
        have b0 := X2.out.cell 0
        have b1 := X2.out.cell 1
        have b2 := X2.out.cell 2
        have f0 := X2.out.frozen 0
        have f1 := X2.out.frozen 1
        have f2 := X2.out.frozen 2
        simp at v0 v1 v2 b0 b1 b2
        clear hO
        go_wp2_with fail
        refine ret_c3t Try.results39 (by rfl) stOram (cs := #[.slice A0 n0 c0, .slice A1 m.st.length c1, .slice A2 m.pos.length c2]) ?B (by rfl) (by rfl) ?_
        case B => exact fill3 X2.out rfl _ _ _
        have ha := HO.out.agg
        have hz := Z0.out
        exact AccJ.no HB.out (ha.1.chg (chgS3 _ _ _ _ _) (fun y hy e => by have := ha.2 y hy; omega)) (fun y hy => by have := ha.2 y hy; omega) (gbChg (gbT G0.out GB.out) (chgS3 _ _ _ _ _) (fun i hi => by omega))
set_option maxHeartbeats 4000000 in
set_option maxRecDepth 100000 in
theorem implOramAccess_no (m : OM) (v : Value) (id value leaf : Int) (write : Bool) (w : World) (h : AggR w (coram m) v) (hz : m.sz ≤ 1048576) (hb : accB m id value leaf = false) :
    Calls Try.prog 38 #[v, .int .i64 id, .bool write, .int .i64 value, .int .i64 leaf] w (AccJ m id write value leaf w) := by
  obtain ⟨u0, u1, u2, rfl, h0, h1, h2⟩ := coram_open h
  obtain ⟨A0, c0, rfl, hc0, hm0⟩ := cbs_rd h0
  obtain ⟨A1, c1, rfl, hc1, hm1, _⟩ := plst_rd (s := 2) (fun _ => rfl) (by omega) h1
  obtain ⟨A2, c2, rfl, hc2, hm2, _⟩ := cints_rd h2
  have HN := Lib.hid hz
  have HB := Lib.hid hb
  have HA := Lib.hid h
  clear h hz h0 h1 h2 hb
  go_enter Try.func38, Try.ntmps38
  go_wp2_with fail
  obtain ⟨x0, e0⟩ : ∃ x : World, x = (w.alloc (.cells #[.slice A0 m.bk.length c0, .slice A1 m.st.length c1, .slice A2 m.pos.length c2] 36)).alloc (.cells #[(.slice none 0 0), (.slice none 0 0), (.slice none 0 0)] 36) := ⟨_, rfl⟩
  have K1 : Hid (Blk x0 w.heap.size 36 #[.slice A0 m.bk.length c0, .slice A1 m.st.length c1, .slice A2 m.pos.length c2]) := by rw [e0]; exact (Blk.new w _ _).grow (gbA (gbR _ _) _)
  have K2 : Hid (Blk x0 (w.heap.size + 1) 36 #[(.slice none 0 0), (.slice none 0 0), (.slice none 0 0)]) := by rw [e0]; exact Blk.new' _ _ _ _ (by simp)
  have G0 : Hid (w.grownBy x0 none) := by rw [e0]; exact gbA (gbA (gbR _ _) _) _
  have Z0 : Hid (x0.heap.size = w.heap.size + 1 + 1) := by rw [e0]; exact Lib.hid (by simp)
  rw [← e0]
  clear e0
  have q0 := K1.out.cell 0
  have q1 := K1.out.cell 1
  have q2 := K1.out.cell 2
  simp at q0 q1 q2
  go_wp2_with fail
  refine (implcopyOram_c m _ _ (AggR.grow HA.out G0.out) HN.out).mono ?_
  rintro e x1 ⟨V, F, rfl, a1, l1, g1⟩
  obtain ⟨B0, n0, s0, B1, n1, s1, B2, n2, s2, rfl⟩ := coram_oform a1
  have hz1 := g1.size
  have OA := Lib.hid (OS.made (cs := #[]) (g := x1.heap.size) (lo := x0.heap.size) (Blk.new x1 36 #[.slice B0 n0 s0, .slice B1 n1 s1, .slice B2 n2 s2]) (a1.grow (gbA (gbR x1 none) (.cells #[.slice B0 n0 s0, .slice B1 n1 s1, .slice B2 n2 s2] 36))) l1 hz1 (fun hx => by have := a1.lt _ hx; omega))
  have GA := Lib.hid (gbT g1 (gbA (gbR x1 none) (.cells #[.slice B0 n0 s0, .slice B1 n1 s1, .slice B2 n2 s2] 36)))
  clear q0 q1 q2
  have q0 := (K1.out.grow g1).cell 0
  have q1 := (K1.out.grow g1).cell 1
  have q2 := (K1.out.grow g1).cell 2
  have qz := (K1.out.grow g1).lt
  simp at q0 q1 q2
  clear a1 l1 g1 hz1
  go_wp2_with fail
  obtain ⟨x2, e2⟩ : ∃ x2, x1.alloc (.cells #[.slice B0 n0 s0, .slice B1 n1 s1, .slice B2 n2 s2] 36) = x2 := ⟨_, rfl⟩
  rw [e2] at OA GA ⊢
  clear e2 q0 q1 q2 qz
  obtain ⟨G, hG⟩ : ∃ G, x1.heap.size = G := ⟨_, rfl⟩
  rw [hG] at OA ⊢
  clear hG
  refine (implOramOk_c m _ _ (AggR.grow HA.out (gbT G0.out GA.out)) (by have := HN.out; omega)).mono ?_
  rintro e x3 ⟨rfl, g3⟩
  have OB := Lib.hid (OA.out.grow g3)
  have GB := Lib.hid (gbT GA.out g3)
  clear g3 OA GA
  cases ho : oramB m with
  | false =>
    obtain ⟨A0, n0, c0, A1, c1, A2, c2, F0, F1, F2, hO⟩ := OSE.forms OB.out
    have HO := Lib.hid hO
    have v0 := hO.blk.cell 0
    have v1 := hO.blk.cell 1
    have v2 := hO.blk.cell 2
    have X2 := Lib.hid (K2.out.grow GB.out)
    have b0 := X2.out.cell 0
    have b1 := X2.out.cell 1
    have b2 := X2.out.cell 2
    have f0 := X2.out.frozen 0
    have f1 := X2.out.frozen 1
    have f2 := X2.out.frozen 2
    simp at v0 v1 v2 b0 b1 b2
    clear hO
    go_wp2_with fail
    refine ret_c3t Try.results38 (by rfl) stOram (cs := #[.slice A0 n0 c0, .slice A1 m.st.length c1, .slice A2 m.pos.length c2]) ?B (by rfl) (by rfl) ?_
    case B => exact fill3 X2.out rfl _ _ _
    have ha := HO.out.agg
    have hz := Z0.out
    exact AccJ.no HB.out (ha.1.chg (chgS3 _ _ _ _ _) (fun y hy e => by have := ha.2 y hy; omega)) (fun y hy => by have := ha.2 y hy; omega) (gbChg (gbT G0.out GB.out) (chgS3 _ _ _ _ _) (fun i hi => by omega))
  | true =>
    go_wp2_with fail
    refine (implIn_c id 0 11 _).mono ?_
    rintro e x4 ⟨rfl, rfl⟩
    cases hi : inR id 0 11 with
    | false =>
      obtain ⟨A0, n0, c0, A1, c1, A2, c2, F0, F1, F2, hO⟩ := OSE.forms OB.out
      have HO := Lib.hid hO
      have v0 := hO.blk.cell 0
      have v1 := hO.blk.cell 1
      have v2 := hO.blk.cell 2
      have X2 := Lib.hid (K2.out.grow GB.out)
      have b0 := X2.out.cell 0
      have b1 := X2.out.cell 1
      have b2 := X2.out.cell 2
      have f0 := X2.out.frozen 0
      have f1 := X2.out.frozen 1
      have f2 := X2.out.frozen 2
      simp at v0 v1 v2 b0 b1 b2
      clear hO
      go_wp2_with fail
      refine ret_c3t Try.results38 (by rfl) stOram (cs := #[.slice A0 n0 c0, .slice A1 m.st.length c1, .slice A2 m.pos.length c2]) ?B (by rfl) (by rfl) ?_
      case B => exact fill3 X2.out rfl _ _ _
      have ha := HO.out.agg
      have hz := Z0.out
      exact AccJ.no HB.out (ha.1.chg (chgS3 _ _ _ _ _) (fun y hy e => by have := ha.2 y hy; omega)) (fun y hy => by have := ha.2 y hy; omega) (gbChg (gbT G0.out GB.out) (chgS3 _ _ _ _ _) (fun i hi => by omega))
    | true =>
      go_wp2_with fail
      refine (implIsWord_c value _).mono ?_
      rintro e x4 ⟨rfl, rfl⟩
      cases hv : wordB value with
      | false =>
        obtain ⟨A0, n0, c0, A1, c1, A2, c2, F0, F1, F2, hO⟩ := OSE.forms OB.out
        have HO := Lib.hid hO
        have v0 := hO.blk.cell 0
        have v1 := hO.blk.cell 1
        have v2 := hO.blk.cell 2
        have X2 := Lib.hid (K2.out.grow GB.out)
        have b0 := X2.out.cell 0
        have b1 := X2.out.cell 1
        have b2 := X2.out.cell 2
        have f0 := X2.out.frozen 0
        have f1 := X2.out.frozen 1
        have f2 := X2.out.frozen 2
        simp at v0 v1 v2 b0 b1 b2
        clear hO
        go_wp2_with fail
        refine ret_c3t Try.results38 (by rfl) stOram (cs := #[.slice A0 n0 c0, .slice A1 m.st.length c1, .slice A2 m.pos.length c2]) ?B (by rfl) (by rfl) ?_
        case B => exact fill3 X2.out rfl _ _ _
        have ha := HO.out.agg
        have hz := Z0.out
        exact AccJ.no HB.out (ha.1.chg (chgS3 _ _ _ _ _) (fun y hy e => by have := ha.2 y hy; omega)) (fun y hy => by have := ha.2 y hy; omega) (gbChg (gbT G0.out GB.out) (chgS3 _ _ _ _ _) (fun i hi => by omega))
      | true =>
        go_wp2_with fail
        refine (implIn_c leaf 0 7 _).mono ?_
        rintro e x4 ⟨rfl, rfl⟩
        have hl : inR leaf 0 7 = false := by
          have h1 := HB.out
          unfold accB at h1
          rw [ho, hi, hv] at h1
          simpa using h1
        rw [hl]
        obtain ⟨A0, n0, c0, A1, c1, A2, c2, F0, F1, F2, hO⟩ := OSE.forms OB.out
        have HO := Lib.hid hO
        have v0 := hO.blk.cell 0
        have v1 := hO.blk.cell 1
        have v2 := hO.blk.cell 2
        have X2 := Lib.hid (K2.out.grow GB.out)
        have b0 := X2.out.cell 0
        have b1 := X2.out.cell 1
        have b2 := X2.out.cell 2
        have f0 := X2.out.frozen 0
        have f1 := X2.out.frozen 1
        have f2 := X2.out.frozen 2
        simp at v0 v1 v2 b0 b1 b2
        clear hO
        go_wp2_with fail
        refine ret_c3t Try.results38 (by rfl) stOram (cs := #[.slice A0 n0 c0, .slice A1 m.st.length c1, .slice A2 m.pos.length c2]) ?B (by rfl) (by rfl) ?_
        case B => exact fill3 X2.out rfl _ _ _
        have ha := HO.out.agg
        have hz := Z0.out
        exact AccJ.no HB.out (ha.1.chg (chgS3 _ _ _ _ _) (fun y hy e => by have := ha.2 y hy; omega)) (fun y hy => by have := ha.2 y hy; omega) (gbChg (gbT G0.out GB.out) (chgS3 _ _ _ _ _) (fun i hi => by omega))
end Go.Proofs.Ythncoohkdmjcaaa
