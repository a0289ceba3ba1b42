/-
  FnExactEngineNew's core (printed by wip/gen_exnew.py).
-/
import Derived.Test.YthaadgdeadbhkaaMgFnExactEngineNew32
import Derived.Test.YthaadgdeadbhkaaMgFnExactEngineNew43
import Derived.Test.YthaadgdeadbhkaaMgFnExactEngineNew44
namespace Go.Proofs.Ythaadgdeadbhkaa
open Go.RowKit
set_option linter.unusedVariables false
set_option linter.unusedSimpArgs false
theorem aggF.farT {Ts : List TypeId} {lo g : Nat} {cs : List CS} {v : Value} {w w' : World} {T : TypeId} {ds : Array Value} (ht : ∀ c ∈ cs, tyd Ts c) (h : aggF lo cs v w) (B : Blk w g T ds) (k : Chg (fun y => y = g) w w') (hT : T ∉ Ts) : aggF lo cs v w' := by
  obtain ⟨F, h1, h2⟩ := h
  have hg := agg_ty ht h1 B hT
  exact ⟨F, h1.chg k (fun x hx e => hg (e ▸ hx)), h2⟩
def intF (lo : Nat) (es : List Int) (v : Value) (w : World) : Prop := aggF lo [cints es] (.agg #[v]) w
theorem intF_st {lo : Nat} {es : List Int} : stable (intF lo es) := fun v w w' h hg => aggF_st _ _ _ h hg
theorem intF.of {lo : Nat} {es : List Int} {v : Value} {w : World} {F : List Nat} (h : (cints es).own w F v) (hl : ∀ x ∈ F, lo ≤ x) : intF lo es v w := ⟨_, ⟨_, _, rfl, OwnAll.cons h (OwnAll.nil _) (by simp), rfl⟩, fun x hx => hl x (by simpa using hx)⟩
theorem intF.rd {lo : Nat} {es : List Int} {v : Value} {w : World} (h : intF lo es v w) : (cints es).rd w v := by
  obtain ⟨F, h1, _⟩ := h
  obtain ⟨vs, e, h⟩ := h1.rd
  obtain ⟨u0, vs0, rfl, h0, h⟩ := RdAll.head h
  obtain rfl := RdAll.none h
  injection e with e
  have e : [u0] = [v] := by have := congrArg Array.toList e; simpa using this.symm
  injection e with e
  subst e
  exact h0
theorem intF.far {lo g : Nat} {es : List Int} {v : Value} {w w' : World} {T : TypeId} {ds : Array Value} (h : intF lo es v w) (B : Blk w g T ds) (k : Chg (fun y => y = g) w w') (hT : T ∉ [3]) : intF lo es v w' := aggF.farT (Ts := [3]) (fun c hc => by simp at hc; subst hc; exact tyd_plst (by simp)) h B k hT
def engTupB (lo : Nat) (m : EM) (b1 : Bool) (v : Value) (w : World) : Prop := ∃ A B C D E a b c d e, v = .tuple #[.agg #[.int .i64 m.k.p, .slice A m.k.al.length a, .int .i64 m.c.p, .slice B m.c.st.length b, .slice C m.c.outs.length c, .slice D m.vs.length d, .slice E m.op.length e, .int .i64 m.rd, .bool m.bad], .bool b1] ∧ aggF lo (cengine m) (.agg #[.int .i64 m.k.p, .slice A m.k.al.length a, .int .i64 m.c.p, .slice B m.c.st.length b, .slice C m.c.outs.length c, .slice D m.vs.length d, .slice E m.op.length e, .int .i64 m.rd, .bool m.bad]) w
theorem engTupB_st {lo : Nat} {m : EM} {b1 : Bool} : stable (engTupB lo m b1) := fun v w w' ⟨A, B, C, D, E, a, b, c, d, e, h1, h2⟩ hg => ⟨A, B, C, D, E, a, b, c, d, e, h1, aggF_st _ _ _ h2 hg⟩
theorem engTupB_far {lo g : Nat} {m : EM} {b1 : Bool} {v : Value} {w w' : World} {T : TypeId} {cs : Array Value} (h : engTupB lo m b1 v w) (B : Blk w g T cs) (k : Chg (fun y => y = g) w w') (hT : T ∉ [3, 95, 44]) : engTupB lo m b1 v w' := by
  obtain ⟨A, B9, C, D, E, a, b, c, d, e, h1, h2⟩ := h
  exact ⟨A, B9, C, D, E, a, b, c, d, e, h1, h2.far B k hT⟩
set_option maxRecDepth 100000 in
set_option maxHeartbeats 4000000 in
theorem FnExactEngineNew.core (kk : KM) (cc : AM) (es : List Int) (ts ta : Int) (r0 : EM) (r1 : Bool) (w : World) (v0 v1 v2 : Value) (ha0 : AggR w (ckeys kk) v0) (ha1 : AggR w (carith cc) v1) (ha2 : (cints es).rd w v2) (hz0 : kk.sz ≤ 1048576) (hz1 : cc.sz ≤ 1048576 - kk.sz) (hz2 : es.length ≤ 1048576) (hs0 : r0.prt)
    (hs : ∀ (w : World) (v0 v1 v2 : Value), AggR w (ckeys kk) v0 → AggR w (carith cc) v1 → (cints es).rd w v2 → Calls Try.prog 20 #[v0, v1, v2, .agg #[.int .i64 ts, .int .i64 ta]] w fun e w' => ∃ V F, e = .returned (.tuple #[V, .bool r1]) ∧ AggO w' (cengine r0) F V ∧ (∀ g ∈ F, w.heap.size ≤ g) ∧ w.grownBy w' none)
    (hi : ∀ (w : World) (v0 v1 v2 : Value), AggR w (ckeys kk) v0 → AggR w (carith cc) v1 → (cints es).rd w v2 → Calls Try.prog 10 #[v0, v1, v2, .agg #[.int .i64 ts, .int .i64 ta]] w fun e w' => ∃ V F, e = .returned (.tuple #[V, .bool r1]) ∧ AggO w' (cengine r0) F V ∧ (∀ g ∈ F, w.heap.size ≤ g) ∧ w.grownBy w' none) :
    Calls Try.prog 7 #[v0, v1, v2, .agg #[.int .i64 ts, .int .i64 ta]] w fun e w' => e = .returned (.bool true) ∧ w.grownBy w' none := by
  have HS := Lib.hid hs
  have HI := Lib.hid hi
  obtain ⟨p0_1, rfl, _⟩ := ckeys_open (m := kk) ha0
  obtain ⟨p1_1, p1_2, rfl, _, _⟩ := carith_open (m := cc) ha1
  obtain ⟨pa2, pc2, rfl, _, _, _⟩ := cints_rd ha2
  have hb2 : ¬ (1048576 : Int) < (es.length : Int) := by omega
  have kc0 : 1 ≤ kk.cnt 1 ∧ kk.cnt 1 ≤ 16777216 := by
    unfold KM.cnt
    unfold KM.sz at hz0
    omega
  have kc1 : 1 ≤ cc.cnt (kk.cnt 1) ∧ cc.cnt (kk.cnt 1) ≤ 16777216 := by
    have h1 : kk.cnt 1 = 1 + kk.al.length := rfl
    have h2 : cc.cnt (kk.cnt 1) = kk.cnt 1 + 3 * cc.st.length + cc.outs.length := rfl
    have h3 : kk.sz = kk.al.length := rfl
    have h4 : cc.sz = cc.st.length + cc.outs.length := rfl
    omega
  have HA0 := Lib.hid ha0
  have HA1 := Lib.hid ha1
  have HA2 := Lib.hid ha2
  have HZ0 := Lib.hid hz0
  have HZ1 := Lib.hid hz1
  have HZ2 := Lib.hid hz2
  have kr0 := EM.prt_bd hs0
  have HL0 := Lib.hid hs0
  clear hs hi ha0 ha1 ha2 hz0 hz1 hz2 hs0
  obtain ⟨y, hyy⟩ : ∃ q : World, ((w.alloc (.cells #[.int .i64 kk.p, p0_1] 58)).alloc (.cells #[.int .i64 cc.p, p1_1, p1_2] 61)).alloc (.cells #[.int .i64 ts, .int .i64 ta] 73) = q := ⟨_, rfl⟩
  have G : Hid (w.grownBy y none) := by rw [← hyy]; exact gbA (gbA (gbA (gbR _ _) _) _) _
  have z00 : w.heap.size + 3 ≤ y.heap.size := by rw [← hyy]; simp
  have B0 : Hid (Blk y w.heap.size 58 #[.int .i64 kk.p, p0_1]) := by rw [← hyy]; exact ((Blk.new w _ _).grow (gbA (gbR _ _) _)).grow (gbA (gbR _ _) _)
  have B1 : Hid (Blk y (w.heap.size + 1) 61 #[.int .i64 cc.p, p1_1, p1_2]) := by rw [← hyy]; exact (Blk.new' _ _ _ _ (by simp)).grow (gbA (gbR _ _) _)
  have BT : Hid (Blk y (w.heap.size + 1 + 1) 73 #[.int .i64 ts, .int .i64 ta]) := by rw [← hyy]; exact Blk.new' _ _ _ _ (by simp)
  go_enter Try.func7, Try.ntmps7
  have k_B0_0 := B0.out.cell 0
  have k_B0_1 := B0.out.cell 1
  have k_B1_0 := B1.out.cell 0
  have k_B1_1 := B1.out.cell 1
  have k_B1_2 := B1.out.cell 2
  have k_BT_0 := BT.out.cell 0
  have k_BT_1 := BT.out.cell 1
  simp at k_B0_0 k_B0_1 k_B1_0 k_B1_1 k_B1_2 k_BT_0 k_BT_1
  go_wp2_with fail
  clear k_B0_0 k_B0_1 k_B1_0 k_B1_1 k_B1_2 k_BT_0 k_BT_1
  clear hyy
  refine (szKeys_k kk _ 1048576 _ (AggR.grow HA0.out G.out) (by omega)).mono ?_
  rintro e y ⟨rfl, g⟩
  rw [szO_yes HZ0.out]
  have E := Lib.hid (Blk.grow B0.out g)
  clear B0
  have B0 := E
  clear E
  have E := Lib.hid (Blk.grow B1.out g)
  clear B1
  have B1 := E
  clear E
  have E := Lib.hid (Blk.grow BT.out g)
  clear BT
  have BT := E
  clear E
  have z1 := World.grownBy.size g
  try simp at z1
  have E := Lib.hid (gbT G.out g)
  clear G
  have G := E
  clear E
  clear g
  have k_B0_0 := B0.out.cell 0
  have k_B0_1 := B0.out.cell 1
  have k_B1_0 := B1.out.cell 0
  have k_B1_1 := B1.out.cell 1
  have k_B1_2 := B1.out.cell 2
  have k_BT_0 := BT.out.cell 0
  have k_BT_1 := BT.out.cell 1
  simp at k_B0_0 k_B0_1 k_B1_0 k_B1_1 k_B1_2 k_BT_0 k_BT_1
  go_wp2_with fail
  clear k_B0_0 k_B0_1 k_B1_0 k_B1_1 k_B1_2 k_BT_0 k_BT_1
  refine (szArith_k cc _ (1048576 - kk.sz) _ (AggR.grow HA1.out G.out) (by omega)).mono ?_
  rintro e y ⟨rfl, g⟩
  rw [szO_yes HZ1.out]
  have E := Lib.hid (Blk.grow B0.out g)
  clear B0
  have B0 := E
  clear E
  have E := Lib.hid (Blk.grow B1.out g)
  clear B1
  have B1 := E
  clear E
  have E := Lib.hid (Blk.grow BT.out g)
  clear BT
  have BT := E
  clear E
  have z2 := World.grownBy.size g
  try simp at z2
  have E := Lib.hid (gbT G.out g)
  clear G
  have G := E
  clear E
  clear g
  have k_B0_0 := B0.out.cell 0
  have k_B0_1 := B0.out.cell 1
  have k_B1_0 := B1.out.cell 0
  have k_B1_1 := B1.out.cell 1
  have k_B1_2 := B1.out.cell 2
  have k_BT_0 := BT.out.cell 0
  have k_BT_1 := BT.out.cell 1
  simp at k_B0_0 k_B0_1 k_B1_0 k_B1_1 k_B1_2 k_BT_0 k_BT_1
  go_wp2_with fail
  clear k_B0_0 k_B0_1 k_B1_0 k_B1_1 k_B1_2 k_BT_0 k_BT_1
  have kB0a := Lib.hid (B0.out.cell 0)
  have kB0b := Lib.hid (B0.out.cell 1)
  have kB1a := Lib.hid (B1.out.cell 0)
  have kB1b := Lib.hid (B1.out.cell 1)
  have kB1c := Lib.hid (B1.out.cell 2)
  have kBTa := Lib.hid (BT.out.cell 0)
  have kBTb := Lib.hid (BT.out.cell 1)
  simp only [List.getElem?_toArray, List.getElem?_cons_succ, List.getElem?_cons_zero] at kB0a kB0b kB1a kB1b kB1c kBTa kBTb
  refine region_chain [.rd (.agg #[.int .i64 kk.p, p0_1]), .fl (aggF y.heap.size (ckeys kk)), .rd (.agg #[.int .i64 cc.p, p1_1, p1_2]), .fl (aggF y.heap.size (carith cc)), .rd (.slice pa2 es.length pc2), .fl (intF y.heap.size es), .rd (.agg #[.int .i64 ts, .int .i64 ta]), .fl (isV (.agg #[.int .i64 ts, .int .i64 ta])), .fl (engTupB y.heap.size r0 r1), .fl (engTupB y.heap.size r0 r1), .fl (aggF y.heap.size (cengine r0)), .rd (.bool r1), .ch, .ch, .ch] (fun x => y.heap.size ≤ x)
    [⟨[], fun _ w' => y.drew.grownBy w' none⟩,
     ⟨[10], fun l w' => (∃ g, l.getD 0 undef = .pointer (some ⟨g, 0, none⟩) ∧ y.heap.size ≤ g ∧ Blk w' g 36 #[.int .i64 0, .slice none 0 0, .int .i64 0, .slice none 0 0, .slice none 0 0, .slice none 0 0, .slice none 0 0, .int .i64 0, .bool false]) ∧ y.grownBy w' none⟩,
     ⟨[10], fun l w' => (∃ g, l.getD 0 undef = .pointer (some ⟨g, 0, none⟩) ∧ y.heap.size ≤ g ∧ sofF y.heap.size 36 (cengine r0) g w') ∧ y.grownBy w' none⟩,
     ⟨[10, 11], fun l w' => (∃ g, l.getD 0 undef = .pointer (some ⟨g, 0, none⟩) ∧ l.getD 1 undef = .bool r1 ∧ y.heap.size ≤ g ∧ sofF y.heap.size 36 (cengine r0) g w') ∧ y.grownBy w' none⟩]
    (by kernel_rfl) (by kernel_rfl) (by kernel_rfl) 3 (by kernel_rfl) ?_ (gbR _ _) rfl ?_ ?_
  · have hst : stablesF [⟨[], fun _ w' => y.drew.grownBy w' none⟩, ⟨[10], fun l w' => (∃ g, l.getD 0 undef = .pointer (some ⟨g, 0, none⟩) ∧ y.heap.size ≤ g ∧ Blk w' g 36 #[.int .i64 0, .slice none 0 0, .int .i64 0, .slice none 0 0, .slice none 0 0, .slice none 0 0, .slice none 0 0, .int .i64 0, .bool false]) ∧ y.grownBy w' none⟩, ⟨[10], fun l w' => (∃ g, l.getD 0 undef = .pointer (some ⟨g, 0, none⟩) ∧ y.heap.size ≤ g ∧ sofF y.heap.size 36 (cengine r0) g w') ∧ y.grownBy w' none⟩, ⟨[10, 11], fun l w' => (∃ g, l.getD 0 undef = .pointer (some ⟨g, 0, none⟩) ∧ l.getD 1 undef = .bool r1 ∧ y.heap.size ≤ g ∧ sofF y.heap.size 36 (cengine r0) g w') ∧ y.grownBy w' none⟩] := by
      refine stF_cons (fun l w1 w2 h hg => gbT h hg) ?_
      refine stF_cons (chain_st fun l w1 w2 ⟨⟨g, h1, h2, h3⟩, h4⟩ hg => ⟨⟨g, h1, h2, h3.grow hg⟩, gbT h4 hg⟩) ?_
      refine stF_cons (chain_st fun l w1 w2 ⟨⟨g, h1, h2, h3⟩, h4⟩ hg => ⟨⟨g, h1, h2, h3.grow hg⟩, gbT h4 hg⟩) ?_
      exact stF_cons (chain_st fun l w1 w2 ⟨⟨g, h1, h1', h2, h3⟩, h4⟩ hg => ⟨⟨g, h1, h1', h2, h3.grow hg⟩, gbT h4 hg⟩) stF_nil
    simp only [flOk, true_and, and_true]
    exact ⟨⟨aggF_st, hst⟩, ⟨aggF_st, hst⟩, ⟨intF_st, hst⟩, ⟨isV_st _, hst⟩, ⟨engTupB_st, hst⟩, ⟨engTupB_st, hst⟩, ⟨aggF_st, hst⟩⟩
  · simp only [hopsK, hopK, Kd.next, and_true]
    refine ⟨?_, ?_, ?_, ?_, ?_, ?_, ?_, ?_, ?_, ?_, ?_, ?_, ?_, ?_, ?_⟩
    · intro f w4 hG hd
      have hg4 := gbChg (gbD (gbR y none)) hG (fun y hy => hy)
      have k0 := gbk hg4 (kB0a.out)
      have k1 := gbk hg4 (kB0b.out)
      (try simp [depsC, dstAt, kAt, bindE, List.filter_cons, bd_data, bd_chain, bd_guard, bd_phase, bd_text, bd_gc] at hd)
      (first | simp [puts, dsts, Act.put, hd] | simp [puts, dsts, Act.put])
      clear hd
      go_wp2_with fail
      exact ⟨rfl, rfl⟩
    · intro f w4 hG hd
      have hg4 := gbChg (gbD (gbR y none)) hG (fun y hy => hy)
      have hz4 := hg4.size
      (try simp [depsC, dstAt, kAt, bindE, List.filter_cons, bd_data, bd_chain, bd_guard, bd_phase, bd_text, bd_gc] at hd)
      (first | simp [puts, dsts, Act.put, hd] | simp [puts, dsts, Act.put])
      clear hd
      go_wp2_with fail
      refine (toKeys_k kk _ w4 (AggR.grow HA0.out (gbT G.out hg4)) HZ0.out).mono ?_
      rintro e w6 ⟨uu, FF, rfl, oo, ll, hw⟩
      have O6 := Lib.hid (show aggF y.heap.size (ckeys kk) uu w6 from ⟨FF, oo, fun x hx => Nat.le_trans hz4 (ll x hx)⟩)
      obtain ⟨_, _, _, rfl⟩ := ckeys_oform oo
      have G6 := Lib.hid hw
      clear oo ll hw
      go_wp2_with fail
      exact ⟨_, rfl, O6.out, G6.out⟩
    · intro f w4 hG hd
      have hg4 := gbChg (gbD (gbR y none)) hG (fun y hy => hy)
      have k2 := gbk hg4 (kB1a.out)
      have k3 := gbk hg4 (kB1b.out)
      have k4 := gbk hg4 (kB1c.out)
      (try simp [depsC, dstAt, kAt, bindE, List.filter_cons, bd_data, bd_chain, bd_guard, bd_phase, bd_text, bd_gc] at hd)
      (first | simp [puts, dsts, Act.put, hd] | simp [puts, dsts, Act.put])
      clear hd
      go_wp2_with fail
      exact ⟨rfl, rfl⟩
    · intro f w4 hG hd
      have hg4 := gbChg (gbD (gbR y none)) hG (fun y hy => hy)
      have hz4 := hg4.size
      (try simp [depsC, dstAt, kAt, bindE, List.filter_cons, bd_data, bd_chain, bd_guard, bd_phase, bd_text, bd_gc] at hd)
      have hd := hd.1
      try simp only [isV] at hd
      simp [puts, dsts, Act.put, hd]
      clear hd
      go_wp2_with fail
      refine (toArith_k cc _ w4 (AggR.grow HA1.out (gbT G.out hg4)) (by have := HZ1.out; omega)).mono ?_
      rintro e w6 ⟨uu, FF, rfl, oo, ll, hw⟩
      have O6 := Lib.hid (show aggF y.heap.size (carith cc) uu w6 from ⟨FF, oo, fun x hx => Nat.le_trans hz4 (ll x hx)⟩)
      obtain ⟨_, _, _, _, _, _, rfl⟩ := carith_oform oo
      have G6 := Lib.hid hw
      clear oo ll hw
      go_wp2_with fail
      exact ⟨_, rfl, O6.out, G6.out⟩
    · intro f w4 hG hd
      have hg4 := gbChg (gbD (gbR y none)) hG (fun y hy => hy)
      (try simp [depsC, dstAt, kAt, bindE, List.filter_cons, bd_data, bd_chain, bd_guard, bd_phase, bd_text, bd_gc] at hd)
      (first | simp [puts, dsts, Act.put, hd] | simp [puts, dsts, Act.put])
      clear hd
      go_wp2_with fail
      exact ⟨rfl, rfl⟩
    · intro f w4 hG hd
      have hg4 := gbChg (gbD (gbR y none)) hG (fun y hy => hy)
      have hz4 := hg4.size
      (try simp [depsC, dstAt, kAt, bindE, List.filter_cons, bd_data, bd_chain, bd_guard, bd_phase, bd_text, bd_gc] at hd)
      have hd := hd.1
      try simp only [isV] at hd
      simp [puts, dsts, Act.put, hd]
      clear hd
      go_wp2_with fail
      refine (toIntS_k es _ w4 (CS.grow _ HA2.out (gbT G.out hg4)) HZ2.out).mono ?_
      rintro e w6 ⟨uu, FF, rfl, oo, ll, hw⟩
      have O6 := Lib.hid (show intF y.heap.size es uu w6 from intF.of oo (fun x hx => Nat.le_trans hz4 (ll x hx)))
      obtain ⟨_, _, _, rfl⟩ := row_form oo
      have G6 := Lib.hid hw
      clear oo ll hw
      go_wp2_with fail
      exact ⟨_, rfl, O6.out, G6.out⟩
    · intro f w4 hG hd
      have hg4 := gbChg (gbD (gbR y none)) hG (fun y hy => hy)
      have k5 := gbk hg4 (kBTa.out)
      have k6 := gbk hg4 (kBTb.out)
      (try simp [depsC, dstAt, kAt, bindE, List.filter_cons, bd_data, bd_chain, bd_guard, bd_phase, bd_text, bd_gc] at hd)
      (first | simp [puts, dsts, Act.put, hd] | simp [puts, dsts, Act.put])
      clear hd
      go_wp2_with fail
      exact ⟨rfl, rfl⟩
    · intro f w4 hG hd
      have hg4 := gbChg (gbD (gbR y none)) hG (fun y hy => hy)
      have hz4 := hg4.size
      (try simp [depsC, dstAt, kAt, bindE, List.filter_cons, bd_data, bd_chain, bd_guard, bd_phase, bd_text, bd_gc] at hd)
      first | have hd := hd.1 | skip
      try simp only [isV] at hd
      simp [puts, dsts, Act.put, hd]
      clear hd
      go_wp2_with fail
      refine (toTape_c ts ta w4).mono ?_
      rintro e w6 ⟨rfl, g6⟩
      have G6 := Lib.hid g6
      clear g6
      go_wp2_with fail
      exact ⟨_, rfl, rfl, G6.out⟩
    · intro f w4 hG hd
      have hg4 := gbChg (gbD (gbR y none)) hG (fun y hy => hy)
      have hz4 := hg4.size
      (try simp [depsC, dstAt, kAt, bindE, List.filter_cons, bd_data, bd_chain, bd_guard, bd_phase, bd_text, bd_gc] at hd)
      obtain ⟨h1, h2, h3, h4⟩ := hd
      first | have h4 := h4.1 | skip
      obtain ⟨Fk, k1, _⟩ := h1
      obtain ⟨Fa, k2, _⟩ := h2
      have k3 := intF.rd h3
      have R1 := Lib.hid k1.rd
      have R2 := Lib.hid k2.rd
      have R3 := Lib.hid k3
      try simp only [isV] at h4
      simp [puts, dsts, Act.put, h4]
      clear h3 h4 k1 k2 k3
      go_wp2_with fail
      refine (HS.out w4 _ _ _ R1.out R2.out R3.out).mono ?_
      rintro e w6 ⟨v6, F6, rfl, o6, l6, g6⟩
      obtain ⟨A', B', C', D', E', a', b', c', d', e', rfl, _⟩ := cengine_open o6.rd
      have O6 : Hid (engTupB y.heap.size r0 r1 _ w6) := Lib.hid ⟨A', B', C', D', E', a', b', c', d', e', rfl, F6, o6, fun x hx => Nat.le_trans hz4 (l6 x hx)⟩
      have G6 := Lib.hid g6
      clear o6 g6 l6
      go_wp2_with fail
      exact ⟨_, rfl, O6.out, G6.out⟩
    · intro f w4 hG hd
      have hg4 := gbChg (gbD (gbR y none)) hG (fun y hy => hy)
      have hz4 := hg4.size
      (try simp [depsC, dstAt, kAt, bindE, List.filter_cons, bd_data, bd_chain, bd_guard, bd_phase, bd_text, bd_gc] at hd)
      obtain ⟨A', B', C', D', E', a', b', c', d', e', e9, o6⟩ := hd
      simp [puts, dsts, Act.put, e9]
      go_wp2_with fail
      exact ⟨_, rfl, ⟨A', B', C', D', E', a', b', c', d', e', rfl, o6⟩, gbR _ _⟩
    · intro f w4 hG hd
      have hg4 := gbChg (gbD (gbR y none)) hG (fun y hy => hy)
      have hz4 := hg4.size
      (try simp [depsC, dstAt, kAt, bindE, List.filter_cons, bd_data, bd_chain, bd_guard, bd_phase, bd_text, bd_gc] at hd)
      obtain ⟨A', B', C', D', E', a', b', c', d', e', e9, o6⟩ := hd
      simp [puts, dsts, Act.put, e9]
      go_wp2_with fail
      exact ⟨_, rfl, o6, gbR _ _⟩
    · intro f w4 hG hd
      have hg4 := gbChg (gbD (gbR y none)) hG (fun y hy => hy)
      (try simp [depsC, dstAt, kAt, bindE, List.filter_cons, bd_data, bd_chain, bd_guard, bd_phase, bd_text, bd_gc] at hd)
      obtain ⟨A', B', C', D', E', a', b', c', d', e', e9, o6⟩ := hd
      simp [puts, dsts, Act.put, e9]
      go_wp2_with fail
      exact ⟨rfl, rfl⟩
    · intro f w4 hG hI hd
      have hg4 := gbChg (gbD (gbR y none)) hG (fun y hy => hy)
      have hz4 := hg4.size
      clear hd
      simp [puts, dsts, Act.put]
      go_wp2_with fail
      exact ⟨_, rfl, ⟨⟨_, rfl, hz4, Blk.new _ _ _⟩, gbA hg4 _⟩, ⟨chgA _ _, by simp [keepsC, dstAt]; exact ⟨fun h => aggF_st _ _ _ h (gbA (gbR _ _) _), fun h => aggF_st _ _ _ h (gbA (gbR _ _) _), fun h => intF_st _ _ _ h (gbA (gbR _ _) _), isV_w, fun h => engTupB_st _ _ _ h (gbA (gbR _ _) _), fun h => engTupB_st _ _ _ h (gbA (gbR _ _) _), fun h => aggF_st _ _ _ h (gbA (gbR _ _) _)⟩⟩⟩
    · intro f w4 hG hI hd
      have hg4 := gbChg (gbD (gbR y none)) hG (fun y hy => hy)
      have hz4 := hg4.size
      obtain ⟨⟨g9, e12, hg9, R4⟩, hI⟩ := hI
      have e12 : f 10 = .pointer (some ⟨g9, 0, none⟩) := e12
      (try simp [depsC, dstAt, kAt, bindE, List.filter_cons, bd_data, bd_chain, bd_guard, bd_phase, bd_text, bd_gc] at hd)
      have h40 : aggF y.heap.size (cengine r0) (f 45) w4 := by first | exact hd | exact hd.1 | exact hd.2 | exact hd.2.1
      clear hd
      obtain ⟨A9, B9, C9, D9, E9, a9, b9, c9, d9, e9, e40⟩ := h40.eng
      rw [e40] at h40
      obtain ⟨F4, o4, l4⟩ := h40
      have f0 := R4.frozen 0
      have f1 := R4.frozen 1
      have f2 := R4.frozen 2
      have f3 := R4.frozen 3
      have f4 := R4.frozen 4
      have f5 := R4.frozen 5
      have f6 := R4.frozen 6
      have f7 := R4.frozen 7
      have f8 := R4.frozen 8
      have b0 := R4.cell 0
      have b1 := R4.cell 1
      have b2 := R4.cell 2
      have b3 := R4.cell 3
      have b4 := R4.cell 4
      have b5 := R4.cell 5
      have b6 := R4.cell 6
      have b7 := R4.cell 7
      have b8 := R4.cell 8
      simp at b0 b1 b2 b3 b4 b5 b6 b7 b8
      have hgF := agg_ty (cengine_ty _) o4 R4 (by decide)
      have RS := SOF.store R4 (us := [.int .i64 r0.k.p, .slice A9 r0.k.al.length a9, .int .i64 r0.c.p, .slice B9 r0.c.st.length b9, .slice C9 r0.c.outs.length c9, .slice D9 r0.vs.length d9, .slice E9 r0.op.length e9, .int .i64 r0.rd, .bool r0.bad]) rfl o4 hgF
      have CH := chg_setCells g9 [.int .i64 r0.k.p, .slice A9 r0.k.al.length a9, .int .i64 r0.c.p, .slice B9 r0.c.st.length b9, .slice C9 r0.c.outs.length c9, .slice D9 r0.vs.length d9, .slice E9 r0.op.length e9, .int .i64 r0.rd, .bool r0.bad] 0 w4
      have K1 := Lib.hid (fun v (h : engTupB y.heap.size r0 r1 v w4) => engTupB_far h R4 CH (by decide))
      have K2 := Lib.hid (fun v (h : aggF y.heap.size (cengine r0) v w4) => aggF.farT (cengine_ty _) h R4 CH (by decide))
      have K3 := Lib.hid (fun v (h : aggF y.heap.size (ckeys kk) v w4) => aggF.farT (fun c hc => ka_ty kk cc c (List.mem_append_left _ hc)) h R4 CH (by decide))
      have K4 := Lib.hid (fun v (h : aggF y.heap.size (carith cc) v w4) => aggF.farT (fun c hc => ka_ty kk cc c (List.mem_append_right _ hc)) h R4 CH (by decide))
      have K5 := Lib.hid (fun v (h : intF y.heap.size es v w4) => intF.far h R4 CH (by decide))
      have GS := gb_chg hg4 CH hg9
      have CS9 := CH.mono (T := fun x => y.heap.size ≤ x) (fun y hy => by rw [hy]; exact hg9)
      simp only [setCells, Nat.zero_add, Nat.reduceAdd] at RS GS CS9 K1 K2 K3 K4 K5
      have RS := Lib.hid RS
      have GS := Lib.hid GS
      have CS9 := Lib.hid CS9
      clear CH hI o4
      simp [puts, dsts, Act.put, e12, e40]
      clear R4
      go_wp2_with fail
      refine ⟨rfl, ⟨.bool false, ⟨g9, e12, hg9, F4, RS.out, l4⟩, GS.out⟩, CS9.out, ?_⟩
      simp [keepsC, dstAt]
      exact ⟨K3.out _, K4.out _, K5.out _, isV_w, K1.out _, K1.out _, K2.out _⟩
    · intro f w4 hG hI hd
      have hg4 := gbChg (gbD (gbR y none)) hG (fun y hy => hy)
      have hz4 := hg4.size
      obtain ⟨⟨g9, e12, hg9, hs9⟩, hI⟩ := hI
      (try simp [depsC, dstAt, kAt, bindE, List.filter_cons, bd_data, bd_chain, bd_guard, bd_phase, bd_text, bd_gc] at hd)
      first | have hd := hd.1 | skip
      try simp only [isV] at hd
      simp [puts, dsts, Act.put, hd]
      clear hd
      go_wp2_with fail
      exact ⟨.bool r1, rfl, ⟨g9, e12, rfl, hg9, hs9⟩, hI⟩
  intro f y hI hd
  simp only [puts, dsts, Act.put, List.filterMap_cons, List.filterMap_nil, List.setIfInBounds_toArray, List.set_cons_zero, List.set_cons_succ]
  obtain ⟨⟨gw, e12a, e13a, hgw, Fw, hS, hl⟩, hg3⟩ := hI
  have e12 : f 10 = .pointer (some ⟨gw, 0, none⟩) := e12a
  have e13 : f 11 = .bool r1 := e13a
  rw [e12, e13]
  clear hd e12 e13 e12a e13a
  have houtw := hS.out
  obtain ⟨Aw, Bw, Cw, Dw, Ew, aw, bw, cw, dw, ew, hBB, _⟩ := hS.eng
  have hAA := hS.is (us := [.int .i64 r0.k.p, .slice Aw r0.k.al.length aw, .int .i64 r0.c.p, .slice Bw r0.c.st.length bw, .slice Cw r0.c.outs.length cw, .slice Dw r0.vs.length dw, .slice Ew r0.op.length ew, .int .i64 r0.rd, .bool r0.bad]) hBB
  have hltw := hBB.lt
  try simp at hl
  have Owr0 := Lib.hid hAA
  have Lwr0 := Lib.hid hl
  have Uwr0 := Lib.hid (AggO.lt hAA)
  have Cw := Lib.hid hBB
  clear hS hBB hAA hl kB0a kB0b kB1a kB1b kB1c kBTa kBTb
  have E := Lib.hid (Blk.grow B0.out hg3)
  clear B0
  have B0 := E
  clear E
  have E := Lib.hid (Blk.grow B1.out hg3)
  clear B1
  have B1 := E
  clear E
  have E := Lib.hid (Blk.grow BT.out hg3)
  clear BT
  have BT := E
  clear E
  have z3 := World.grownBy.size hg3
  try simp at z3
  have E := Lib.hid (gbT G.out hg3)
  clear G
  have G := E
  clear E
  clear hg3
  have k_B0_0 := B0.out.cell 0
  have k_B0_1 := B0.out.cell 1
  have k_B1_0 := B1.out.cell 0
  have k_B1_1 := B1.out.cell 1
  have k_B1_2 := B1.out.cell 2
  have k_BT_0 := BT.out.cell 0
  have k_BT_1 := BT.out.cell 1
  have k_Cw_0 := Cw.out.cell 0
  have k_Cw_1 := Cw.out.cell 1
  have k_Cw_2 := Cw.out.cell 2
  have k_Cw_3 := Cw.out.cell 3
  have k_Cw_4 := Cw.out.cell 4
  have k_Cw_5 := Cw.out.cell 5
  have k_Cw_6 := Cw.out.cell 6
  have k_Cw_7 := Cw.out.cell 7
  have k_Cw_8 := Cw.out.cell 8
  simp at k_B0_0 k_B0_1 k_B1_0 k_B1_1 k_B1_2 k_BT_0 k_BT_1 k_Cw_0 k_Cw_1 k_Cw_2 k_Cw_3 k_Cw_4 k_Cw_5 k_Cw_6 k_Cw_7 k_Cw_8
  go_wp2_with fail
  clear k_B0_0 k_B0_1 k_B1_0 k_B1_1 k_B1_2 k_BT_0 k_BT_1 k_Cw_0 k_Cw_1 k_Cw_2 k_Cw_3 k_Cw_4 k_Cw_5 k_Cw_6 k_Cw_7 k_Cw_8
  refine (toKeys_k kk _ _ (AggR.grow HA0.out G.out) HZ0.out).mono ?_
  rintro e y ⟨uu, Fx0, rfl, oo, ll, g⟩
  obtain ⟨ax0_1, nx0_1, sx0_1, rfl⟩ := ckeys_oform oo
  try simp at ll
  have Ox0 := Lib.hid oo
  have Lx0 := Lib.hid ll
  have Ux0 := Lib.hid (AggO.lt oo)
  have E := Lib.hid (Blk.grow B0.out g)
  clear B0
  have B0 := E
  clear E
  have E := Lib.hid (Blk.grow B1.out g)
  clear B1
  have B1 := E
  clear E
  have E := Lib.hid (Blk.grow BT.out g)
  clear BT
  have BT := E
  clear E
  have E := Lib.hid (Blk.grow Cw.out g)
  clear Cw
  have Cw := E
  clear E
  have E := Lib.hid (AggO.grow Owr0.out g)
  clear Owr0
  have Owr0 := E
  clear E
  have z4 := World.grownBy.size g
  try simp at z4
  have E := Lib.hid (gbT G.out g)
  clear G
  have G := E
  clear E
  clear g oo ll
  have X := Lib.hid (Blk.new y 26 #[.int .i64 kk.p, .slice ax0_1 nx0_1 sx0_1])
  have ga : y.grownBy (y.alloc (.cells #[.int .i64 kk.p, .slice ax0_1 nx0_1 sx0_1] 26)) none := gbA (gbR y none) _
  have E := Lib.hid (Blk.grow B0.out ga)
  clear B0
  have B0 := E
  clear E
  have E := Lib.hid (Blk.grow B1.out ga)
  clear B1
  have B1 := E
  clear E
  have E := Lib.hid (Blk.grow BT.out ga)
  clear BT
  have BT := E
  clear E
  have E := Lib.hid (Blk.grow Cw.out ga)
  clear Cw
  have Cw := E
  clear E
  have E := Lib.hid (AggO.grow Owr0.out ga)
  clear Owr0
  have Owr0 := E
  clear E
  have E := Lib.hid (AggO.grow Ox0.out ga)
  clear Ox0
  have Ox0 := E
  clear E
  have z5 := World.grownBy.size ga
  try simp at z5
  have E := Lib.hid (gbT G.out ga)
  clear G
  have G := E
  clear E
  clear ga
  have X0 := X
  clear X
  have k_B0_0 := B0.out.cell 0
  have k_B0_1 := B0.out.cell 1
  have k_B1_0 := B1.out.cell 0
  have k_B1_1 := B1.out.cell 1
  have k_B1_2 := B1.out.cell 2
  have k_BT_0 := BT.out.cell 0
  have k_BT_1 := BT.out.cell 1
  have k_Cw_0 := Cw.out.cell 0
  have k_Cw_1 := Cw.out.cell 1
  have k_Cw_2 := Cw.out.cell 2
  have k_Cw_3 := Cw.out.cell 3
  have k_Cw_4 := Cw.out.cell 4
  have k_Cw_5 := Cw.out.cell 5
  have k_Cw_6 := Cw.out.cell 6
  have k_Cw_7 := Cw.out.cell 7
  have k_Cw_8 := Cw.out.cell 8
  have k_X0_0 := X0.out.cell 0
  have k_X0_1 := X0.out.cell 1
  simp at k_B0_0 k_B0_1 k_B1_0 k_B1_1 k_B1_2 k_BT_0 k_BT_1 k_Cw_0 k_Cw_1 k_Cw_2 k_Cw_3 k_Cw_4 k_Cw_5 k_Cw_6 k_Cw_7 k_Cw_8 k_X0_0 k_X0_1
  go_wp2_with fail
  clear k_B0_0 k_B0_1 k_B1_0 k_B1_1 k_B1_2 k_BT_0 k_BT_1 k_Cw_0 k_Cw_1 k_Cw_2 k_Cw_3 k_Cw_4 k_Cw_5 k_Cw_6 k_Cw_7 k_Cw_8 k_X0_0 k_X0_1
  skip
  refine (toArith_k cc _ _ (AggR.grow HA1.out G.out) (by have := HZ1.out; omega)).mono ?_
  rintro e y ⟨uu, Fx1, rfl, oo, ll, g⟩
  obtain ⟨ax1_1, nx1_1, sx1_1, ax1_2, nx1_2, sx1_2, rfl⟩ := carith_oform oo
  try simp at ll
  have Ox1 := Lib.hid oo
  have Lx1 := Lib.hid ll
  have Ux1 := Lib.hid (AggO.lt oo)
  have E := Lib.hid (Blk.grow B0.out g)
  clear B0
  have B0 := E
  clear E
  have E := Lib.hid (Blk.grow B1.out g)
  clear B1
  have B1 := E
  clear E
  have E := Lib.hid (Blk.grow BT.out g)
  clear BT
  have BT := E
  clear E
  have E := Lib.hid (Blk.grow Cw.out g)
  clear Cw
  have Cw := E
  clear E
  have E := Lib.hid (Blk.grow X0.out g)
  clear X0
  have X0 := E
  clear E
  have E := Lib.hid (AggO.grow Owr0.out g)
  clear Owr0
  have Owr0 := E
  clear E
  have E := Lib.hid (AggO.grow Ox0.out g)
  clear Ox0
  have Ox0 := E
  clear E
  have z6 := World.grownBy.size g
  try simp at z6
  have E := Lib.hid (gbT G.out g)
  clear G
  have G := E
  clear E
  clear g oo ll
  have X := Lib.hid (Blk.new y 29 #[.int .i64 cc.p, .slice ax1_1 nx1_1 sx1_1, .slice ax1_2 nx1_2 sx1_2])
  have ga : y.grownBy (y.alloc (.cells #[.int .i64 cc.p, .slice ax1_1 nx1_1 sx1_1, .slice ax1_2 nx1_2 sx1_2] 29)) none := gbA (gbR y none) _
  have E := Lib.hid (Blk.grow B0.out ga)
  clear B0
  have B0 := E
  clear E
  have E := Lib.hid (Blk.grow B1.out ga)
  clear B1
  have B1 := E
  clear E
  have E := Lib.hid (Blk.grow BT.out ga)
  clear BT
  have BT := E
  clear E
  have E := Lib.hid (Blk.grow Cw.out ga)
  clear Cw
  have Cw := E
  clear E
  have E := Lib.hid (Blk.grow X0.out ga)
  clear X0
  have X0 := E
  clear E
  have E := Lib.hid (AggO.grow Owr0.out ga)
  clear Owr0
  have Owr0 := E
  clear E
  have E := Lib.hid (AggO.grow Ox0.out ga)
  clear Ox0
  have Ox0 := E
  clear E
  have E := Lib.hid (AggO.grow Ox1.out ga)
  clear Ox1
  have Ox1 := E
  clear E
  have z7 := World.grownBy.size ga
  try simp at z7
  have E := Lib.hid (gbT G.out ga)
  clear G
  have G := E
  clear E
  clear ga
  have X1 := X
  clear X
  go_wp2_with fail
  refine (toIntS_k es _ _ (CS.grow _ HA2.out G.out) HZ2.out).mono ?_
  rintro e y ⟨uu, Fx2, rfl, oo, ll, g⟩
  obtain ⟨ax2, nx2, sx2, rfl⟩ := row_form oo
  try simp at ll
  have Ox2 := Lib.hid oo
  have Lx2 := Lib.hid ll
  have Ux2 := Lib.hid (CS.lt _ oo)
  have E := Lib.hid (Blk.grow B0.out g)
  clear B0
  have B0 := E
  clear E
  have E := Lib.hid (Blk.grow B1.out g)
  clear B1
  have B1 := E
  clear E
  have E := Lib.hid (Blk.grow BT.out g)
  clear BT
  have BT := E
  clear E
  have E := Lib.hid (Blk.grow Cw.out g)
  clear Cw
  have Cw := E
  clear E
  have E := Lib.hid (Blk.grow X0.out g)
  clear X0
  have X0 := E
  clear E
  have E := Lib.hid (Blk.grow X1.out g)
  clear X1
  have X1 := E
  clear E
  have E := Lib.hid (AggO.grow Owr0.out g)
  clear Owr0
  have Owr0 := E
  clear E
  have E := Lib.hid (AggO.grow Ox0.out g)
  clear Ox0
  have Ox0 := E
  clear E
  have E := Lib.hid (AggO.grow Ox1.out g)
  clear Ox1
  have Ox1 := E
  clear E
  have z8 := World.grownBy.size g
  try simp at z8
  have E := Lib.hid (gbT G.out g)
  clear G
  have G := E
  clear E
  clear g oo ll
  have k_B0_0 := B0.out.cell 0
  have k_B0_1 := B0.out.cell 1
  have k_B1_0 := B1.out.cell 0
  have k_B1_1 := B1.out.cell 1
  have k_B1_2 := B1.out.cell 2
  have k_BT_0 := BT.out.cell 0
  have k_BT_1 := BT.out.cell 1
  have k_Cw_0 := Cw.out.cell 0
  have k_Cw_1 := Cw.out.cell 1
  have k_Cw_2 := Cw.out.cell 2
  have k_Cw_3 := Cw.out.cell 3
  have k_Cw_4 := Cw.out.cell 4
  have k_Cw_5 := Cw.out.cell 5
  have k_Cw_6 := Cw.out.cell 6
  have k_Cw_7 := Cw.out.cell 7
  have k_Cw_8 := Cw.out.cell 8
  have k_X0_0 := X0.out.cell 0
  have k_X0_1 := X0.out.cell 1
  have k_X1_0 := X1.out.cell 0
  have k_X1_1 := X1.out.cell 1
  have k_X1_2 := X1.out.cell 2
  simp at k_B0_0 k_B0_1 k_B1_0 k_B1_1 k_B1_2 k_BT_0 k_BT_1 k_Cw_0 k_Cw_1 k_Cw_2 k_Cw_3 k_Cw_4 k_Cw_5 k_Cw_6 k_Cw_7 k_Cw_8 k_X0_0 k_X0_1 k_X1_0 k_X1_1 k_X1_2
  go_wp2_with fail
  clear k_B0_0 k_B0_1 k_B1_0 k_B1_1 k_B1_2 k_BT_0 k_BT_1 k_Cw_0 k_Cw_1 k_Cw_2 k_Cw_3 k_Cw_4 k_Cw_5 k_Cw_6 k_Cw_7 k_Cw_8 k_X0_0 k_X0_1 k_X1_0 k_X1_1 k_X1_2
  have kB0a := Lib.hid (B0.out.cell 0)
  have kB0b := Lib.hid (B0.out.cell 1)
  have kB1a := Lib.hid (B1.out.cell 0)
  have kB1b := Lib.hid (B1.out.cell 1)
  have kB1c := Lib.hid (B1.out.cell 2)
  have kBTa := Lib.hid (BT.out.cell 0)
  have kBTb := Lib.hid (BT.out.cell 1)
  have kX0a := Lib.hid (X0.out.cell 0)
  have kX0b := Lib.hid (X0.out.cell 1)
  have kX1a := Lib.hid (X1.out.cell 0)
  have kX1b := Lib.hid (X1.out.cell 1)
  have kX1c := Lib.hid (X1.out.cell 2)
  simp only [List.getElem?_toArray, List.getElem?_cons_succ, List.getElem?_cons_zero] at kB0a kB0b kB1a kB1b kB1c kBTa kBTb kX0a kX0b kX1a kX1b kX1c
  refine region_chain [.rd (.agg #[.int .i64 kk.p, .slice ax0_1 nx0_1 sx0_1]), .rd (.agg #[.int .i64 cc.p, .slice ax1_1 nx1_1 sx1_1, .slice ax1_2 nx1_2 sx1_2]), .rd (.slice ax2 nx2 sx2), .rd (.agg #[.int .i64 ts, .int .i64 ta]), .fl (isV (.agg #[.int .i64 ts, .int .i64 ta])), .fl (engTupB y.heap.size r0 r1), .fl (engTupB y.heap.size r0 r1), .fl (aggF y.heap.size (cengine r0)), .rd (.bool r1), .ch, .ch, .ch] (fun x => y.heap.size ≤ x)
    [⟨[], fun _ w' => y.drew.grownBy w' none⟩,
     ⟨[15], fun l w' => (∃ g, l.getD 0 undef = .pointer (some ⟨g, 0, none⟩) ∧ y.heap.size ≤ g ∧ Blk w' g 36 #[.int .i64 0, .slice none 0 0, .int .i64 0, .slice none 0 0, .slice none 0 0, .slice none 0 0, .slice none 0 0, .int .i64 0, .bool false]) ∧ y.grownBy w' none⟩,
     ⟨[15], fun l w' => (∃ g, l.getD 0 undef = .pointer (some ⟨g, 0, none⟩) ∧ y.heap.size ≤ g ∧ sofF y.heap.size 36 (cengine r0) g w') ∧ y.grownBy w' none⟩,
     ⟨[15, 16], fun l w' => (∃ g, l.getD 0 undef = .pointer (some ⟨g, 0, none⟩) ∧ l.getD 1 undef = .bool r1 ∧ y.heap.size ≤ g ∧ sofF y.heap.size 36 (cengine r0) g w') ∧ y.grownBy w' none⟩]
    (by kernel_rfl) (by kernel_rfl) (by kernel_rfl) 3 (by kernel_rfl) ?_ (gbR _ _) rfl ?_ ?_
  · have hst : stablesF [⟨[], fun _ w' => y.drew.grownBy w' none⟩, ⟨[15], fun l w' => (∃ g, l.getD 0 undef = .pointer (some ⟨g, 0, none⟩) ∧ y.heap.size ≤ g ∧ Blk w' g 36 #[.int .i64 0, .slice none 0 0, .int .i64 0, .slice none 0 0, .slice none 0 0, .slice none 0 0, .slice none 0 0, .int .i64 0, .bool false]) ∧ y.grownBy w' none⟩, ⟨[15], fun l w' => (∃ g, l.getD 0 undef = .pointer (some ⟨g, 0, none⟩) ∧ y.heap.size ≤ g ∧ sofF y.heap.size 36 (cengine r0) g w') ∧ y.grownBy w' none⟩, ⟨[15, 16], fun l w' => (∃ g, l.getD 0 undef = .pointer (some ⟨g, 0, none⟩) ∧ l.getD 1 undef = .bool r1 ∧ y.heap.size ≤ g ∧ sofF y.heap.size 36 (cengine r0) g w') ∧ y.grownBy w' none⟩] := by
      refine stF_cons (fun l w1 w2 h hg => gbT h hg) ?_
      refine stF_cons (chain_st fun l w1 w2 ⟨⟨g, h1, h2, h3⟩, h4⟩ hg => ⟨⟨g, h1, h2, h3.grow hg⟩, gbT h4 hg⟩) ?_
      refine stF_cons (chain_st fun l w1 w2 ⟨⟨g, h1, h2, h3⟩, h4⟩ hg => ⟨⟨g, h1, h2, h3.grow hg⟩, gbT h4 hg⟩) ?_
      exact stF_cons (chain_st fun l w1 w2 ⟨⟨g, h1, h1', h2, h3⟩, h4⟩ hg => ⟨⟨g, h1, h1', h2, h3.grow hg⟩, gbT h4 hg⟩) stF_nil
    simp only [flOk, true_and, and_true]
    exact ⟨⟨isV_st _, hst⟩, ⟨engTupB_st, hst⟩, ⟨engTupB_st, hst⟩, ⟨aggF_st, hst⟩⟩
  · simp only [hopsK, hopK, Kd.next, and_true]
    refine ⟨?_, ?_, ?_, ?_, ?_, ?_, ?_, ?_, ?_, ?_, ?_, ?_⟩
    · intro f w4 hG hd
      have hg4 := gbChg (gbD (gbR y none)) hG (fun y hy => hy)
      have k7 := gbk hg4 (kX0a.out)
      have k8 := gbk hg4 (kX0b.out)
      (try simp [depsC, dstAt, kAt, bindE, List.filter_cons, bd_data, bd_chain, bd_guard, bd_phase, bd_text, bd_gc] at hd)
      (first | simp [puts, dsts, Act.put, hd] | simp [puts, dsts, Act.put])
      clear hd
      go_wp2_with fail
      exact ⟨rfl, rfl⟩
    · intro f w4 hG hd
      have hg4 := gbChg (gbD (gbR y none)) hG (fun y hy => hy)
      have k9 := gbk hg4 (kX1a.out)
      have k10 := gbk hg4 (kX1b.out)
      have k11 := gbk hg4 (kX1c.out)
      (try simp [depsC, dstAt, kAt, bindE, List.filter_cons, bd_data, bd_chain, bd_guard, bd_phase, bd_text, bd_gc] at hd)
      (first | simp [puts, dsts, Act.put, hd] | simp [puts, dsts, Act.put])
      clear hd
      go_wp2_with fail
      exact ⟨rfl, rfl⟩
    · intro f w4 hG hd
      have hg4 := gbChg (gbD (gbR y none)) hG (fun y hy => hy)
      (try simp [depsC, dstAt, kAt, bindE, List.filter_cons, bd_data, bd_chain, bd_guard, bd_phase, bd_text, bd_gc] at hd)
      (first | simp [puts, dsts, Act.put, hd] | simp [puts, dsts, Act.put])
      clear hd
      go_wp2_with fail
      exact ⟨rfl, rfl⟩
    · intro f w4 hG hd
      have hg4 := gbChg (gbD (gbR y none)) hG (fun y hy => hy)
      have k5 := gbk hg4 (kBTa.out)
      have k6 := gbk hg4 (kBTb.out)
      (try simp [depsC, dstAt, kAt, bindE, List.filter_cons, bd_data, bd_chain, bd_guard, bd_phase, bd_text, bd_gc] at hd)
      (first | simp [puts, dsts, Act.put, hd] | simp [puts, dsts, Act.put])
      clear hd
      go_wp2_with fail
      exact ⟨rfl, rfl⟩
    · intro f w4 hG hd
      have hg4 := gbChg (gbD (gbR y none)) hG (fun y hy => hy)
      have hz4 := hg4.size
      (try simp [depsC, dstAt, kAt, bindE, List.filter_cons, bd_data, bd_chain, bd_guard, bd_phase, bd_text, bd_gc] at hd)
      first | have hd := hd.1 | skip
      try simp only [isV] at hd
      simp [puts, dsts, Act.put, hd]
      clear hd
      go_wp2_with fail
      refine (toTape_c ts ta w4).mono ?_
      rintro e w6 ⟨rfl, g6⟩
      have G6 := Lib.hid g6
      clear g6
      go_wp2_with fail
      exact ⟨_, rfl, rfl, G6.out⟩
    · intro f w4 hG hd
      have hg4 := gbChg (gbD (gbR y none)) hG (fun y hy => hy)
      have hz4 := hg4.size
      (try simp [depsC, dstAt, kAt, bindE, List.filter_cons, bd_data, bd_chain, bd_guard, bd_phase, bd_text, bd_gc] at hd)
      obtain ⟨h1, h2, h3, h4⟩ := hd
      first | have h4 := h4.1 | skip
      try simp only [isV] at h1 h2 h3 h4
      simp [puts, dsts, Act.put, h1, h2, h3, h4]
      clear h1 h2 h3 h4
      go_wp2_with fail
      refine (HI.out w4 _ _ _ (Ox0.out.grow hg4).rd (Ox1.out.grow hg4).rd (CS.toRd _ (own_growK _ Ox2.out hg4))).mono ?_
      rintro e w6 ⟨v6, F6, rfl, o6, l6, g6⟩
      obtain ⟨A', B', C', D', E', a', b', c', d', e', rfl, _⟩ := cengine_open o6.rd
      have O6 : Hid (engTupB y.heap.size r0 r1 _ w6) := Lib.hid ⟨A', B', C', D', E', a', b', c', d', e', rfl, F6, o6, fun x hx => Nat.le_trans hz4 (l6 x hx)⟩
      have G6 := Lib.hid g6
      clear o6 g6 l6
      go_wp2_with fail
      exact ⟨_, rfl, O6.out, G6.out⟩
    · intro f w4 hG hd
      have hg4 := gbChg (gbD (gbR y none)) hG (fun y hy => hy)
      have hz4 := hg4.size
      (try simp [depsC, dstAt, kAt, bindE, List.filter_cons, bd_data, bd_chain, bd_guard, bd_phase, bd_text, bd_gc] at hd)
      obtain ⟨A', B', C', D', E', a', b', c', d', e', e9, o6⟩ := hd
      simp [puts, dsts, Act.put, e9]
      go_wp2_with fail
      exact ⟨_, rfl, ⟨A', B', C', D', E', a', b', c', d', e', rfl, o6⟩, gbR _ _⟩
    · intro f w4 hG hd
      have hg4 := gbChg (gbD (gbR y none)) hG (fun y hy => hy)
      have hz4 := hg4.size
      (try simp [depsC, dstAt, kAt, bindE, List.filter_cons, bd_data, bd_chain, bd_guard, bd_phase, bd_text, bd_gc] at hd)
      obtain ⟨A', B', C', D', E', a', b', c', d', e', e9, o6⟩ := hd
      simp [puts, dsts, Act.put, e9]
      go_wp2_with fail
      exact ⟨_, rfl, o6, gbR _ _⟩
    · intro f w4 hG hd
      have hg4 := gbChg (gbD (gbR y none)) hG (fun y hy => hy)
      (try simp [depsC, dstAt, kAt, bindE, List.filter_cons, bd_data, bd_chain, bd_guard, bd_phase, bd_text, bd_gc] at hd)
      obtain ⟨A', B', C', D', E', a', b', c', d', e', e9, o6⟩ := hd
      simp [puts, dsts, Act.put, e9]
      go_wp2_with fail
      exact ⟨rfl, rfl⟩
    · intro f w4 hG hI hd
      have hg4 := gbChg (gbD (gbR y none)) hG (fun y hy => hy)
      have hz4 := hg4.size
      clear hd
      simp [puts, dsts, Act.put]
      go_wp2_with fail
      exact ⟨_, rfl, ⟨⟨_, rfl, hz4, Blk.new _ _ _⟩, gbA hg4 _⟩, ⟨chgA _ _, by simp [keepsC, dstAt]; exact ⟨isV_w, fun h => engTupB_st _ _ _ h (gbA (gbR _ _) _), fun h => engTupB_st _ _ _ h (gbA (gbR _ _) _), fun h => aggF_st _ _ _ h (gbA (gbR _ _) _)⟩⟩⟩
    · intro f w4 hG hI hd
      have hg4 := gbChg (gbD (gbR y none)) hG (fun y hy => hy)
      have hz4 := hg4.size
      obtain ⟨⟨g9, e12, hg9, R4⟩, hI⟩ := hI
      have e12 : f 15 = .pointer (some ⟨g9, 0, none⟩) := e12
      (try simp [depsC, dstAt, kAt, bindE, List.filter_cons, bd_data, bd_chain, bd_guard, bd_phase, bd_text, bd_gc] at hd)
      have h40 : aggF y.heap.size (cengine r0) (f 60) w4 := by first | exact hd | exact hd.1 | exact hd.2 | exact hd.2.1
      clear hd
      obtain ⟨A9, B9, C9, D9, E9, a9, b9, c9, d9, e9, e40⟩ := h40.eng
      rw [e40] at h40
      obtain ⟨F4, o4, l4⟩ := h40
      have f0 := R4.frozen 0
      have f1 := R4.frozen 1
      have f2 := R4.frozen 2
      have f3 := R4.frozen 3
      have f4 := R4.frozen 4
      have f5 := R4.frozen 5
      have f6 := R4.frozen 6
      have f7 := R4.frozen 7
      have f8 := R4.frozen 8
      have b0 := R4.cell 0
      have b1 := R4.cell 1
      have b2 := R4.cell 2
      have b3 := R4.cell 3
      have b4 := R4.cell 4
      have b5 := R4.cell 5
      have b6 := R4.cell 6
      have b7 := R4.cell 7
      have b8 := R4.cell 8
      simp at b0 b1 b2 b3 b4 b5 b6 b7 b8
      have hgF := agg_ty (cengine_ty _) o4 R4 (by decide)
      have RS := SOF.store R4 (us := [.int .i64 r0.k.p, .slice A9 r0.k.al.length a9, .int .i64 r0.c.p, .slice B9 r0.c.st.length b9, .slice C9 r0.c.outs.length c9, .slice D9 r0.vs.length d9, .slice E9 r0.op.length e9, .int .i64 r0.rd, .bool r0.bad]) rfl o4 hgF
      have CH := chg_setCells g9 [.int .i64 r0.k.p, .slice A9 r0.k.al.length a9, .int .i64 r0.c.p, .slice B9 r0.c.st.length b9, .slice C9 r0.c.outs.length c9, .slice D9 r0.vs.length d9, .slice E9 r0.op.length e9, .int .i64 r0.rd, .bool r0.bad] 0 w4
      have K1 := Lib.hid (fun v (h : engTupB y.heap.size r0 r1 v w4) => engTupB_far h R4 CH (by decide))
      have K2 := Lib.hid (fun v (h : aggF y.heap.size (cengine r0) v w4) => aggF.farT (cengine_ty _) h R4 CH (by decide))
      have K3 := Lib.hid (fun v (h : aggF y.heap.size (ckeys kk) v w4) => aggF.farT (fun c hc => ka_ty kk cc c (List.mem_append_left _ hc)) h R4 CH (by decide))
      have K4 := Lib.hid (fun v (h : aggF y.heap.size (carith cc) v w4) => aggF.farT (fun c hc => ka_ty kk cc c (List.mem_append_right _ hc)) h R4 CH (by decide))
      have K5 := Lib.hid (fun v (h : intF y.heap.size es v w4) => intF.far h R4 CH (by decide))
      have GS := gb_chg hg4 CH hg9
      have CS9 := CH.mono (T := fun x => y.heap.size ≤ x) (fun y hy => by rw [hy]; exact hg9)
      simp only [setCells, Nat.zero_add, Nat.reduceAdd] at RS GS CS9 K1 K2 K3 K4 K5
      have RS := Lib.hid RS
      have GS := Lib.hid GS
      have CS9 := Lib.hid CS9
      clear CH hI o4
      simp [puts, dsts, Act.put, e12, e40]
      clear R4
      go_wp2_with fail
      refine ⟨rfl, ⟨.bool false, ⟨g9, e12, hg9, F4, RS.out, l4⟩, GS.out⟩, CS9.out, ?_⟩
      simp [keepsC, dstAt]
      exact ⟨isV_w, K1.out _, K1.out _, K2.out _⟩
    · intro f w4 hG hI hd
      have hg4 := gbChg (gbD (gbR y none)) hG (fun y hy => hy)
      have hz4 := hg4.size
      obtain ⟨⟨g9, e12, hg9, hs9⟩, hI⟩ := hI
      (try simp [depsC, dstAt, kAt, bindE, List.filter_cons, bd_data, bd_chain, bd_guard, bd_phase, bd_text, bd_gc] at hd)
      first | have hd := hd.1 | skip
      try simp only [isV] at hd
      simp [puts, dsts, Act.put, hd]
      clear hd
      go_wp2_with fail
      exact ⟨.bool r1, rfl, ⟨g9, e12, rfl, hg9, hs9⟩, hI⟩
  intro f y hI hd
  simp only [puts, dsts, Act.put, List.filterMap_cons, List.filterMap_nil, List.setIfInBounds_toArray, List.set_cons_zero, List.set_cons_succ]
  obtain ⟨⟨gg, e12a, e13a, hgg, Fg, hS, hl⟩, hg3⟩ := hI
  have e12 : f 15 = .pointer (some ⟨gg, 0, none⟩) := e12a
  have e13 : f 16 = .bool r1 := e13a
  rw [e12, e13]
  clear hd e12 e13 e12a e13a
  have houtg := hS.out
  obtain ⟨Ag, Bg, Cg, Dg, Eg, ag, bg, cg, dg, eg, hBB, _⟩ := hS.eng
  have hAA := hS.is (us := [.int .i64 r0.k.p, .slice Ag r0.k.al.length ag, .int .i64 r0.c.p, .slice Bg r0.c.st.length bg, .slice Cg r0.c.outs.length cg, .slice Dg r0.vs.length dg, .slice Eg r0.op.length eg, .int .i64 r0.rd, .bool r0.bad]) hBB
  have hltg := hBB.lt
  try simp at hl
  have Ogr0 := Lib.hid hAA
  have Lgr0 := Lib.hid hl
  have Ugr0 := Lib.hid (AggO.lt hAA)
  have Cg := Lib.hid hBB
  clear hS hBB hAA hl kB0a kB0b kB1a kB1b kB1c kBTa kBTb kX0a kX0b kX1a kX1b kX1c
  have E := Lib.hid (Blk.grow B0.out hg3)
  clear B0
  have B0 := E
  clear E
  have E := Lib.hid (Blk.grow B1.out hg3)
  clear B1
  have B1 := E
  clear E
  have E := Lib.hid (Blk.grow BT.out hg3)
  clear BT
  have BT := E
  clear E
  have E := Lib.hid (Blk.grow Cw.out hg3)
  clear Cw
  have Cw := E
  clear E
  have E := Lib.hid (Blk.grow X0.out hg3)
  clear X0
  have X0 := E
  clear E
  have E := Lib.hid (Blk.grow X1.out hg3)
  clear X1
  have X1 := E
  clear E
  have E := Lib.hid (AggO.grow Owr0.out hg3)
  clear Owr0
  have Owr0 := E
  clear E
  have E := Lib.hid (AggO.grow Ox0.out hg3)
  clear Ox0
  have Ox0 := E
  clear E
  have E := Lib.hid (AggO.grow Ox1.out hg3)
  clear Ox1
  have Ox1 := E
  clear E
  have E := Lib.hid (own_growK _ Ox2.out hg3)
  clear Ox2
  have Ox2 := E
  clear E
  have z9 := World.grownBy.size hg3
  try simp at z9
  have E := Lib.hid (gbT G.out hg3)
  clear G
  have G := E
  clear E
  clear hg3
  have k_B0_0 := B0.out.cell 0
  have k_B0_1 := B0.out.cell 1
  have k_B1_0 := B1.out.cell 0
  have k_B1_1 := B1.out.cell 1
  have k_B1_2 := B1.out.cell 2
  have k_BT_0 := BT.out.cell 0
  have k_BT_1 := BT.out.cell 1
  have k_Cw_0 := Cw.out.cell 0
  have k_Cw_1 := Cw.out.cell 1
  have k_Cw_2 := Cw.out.cell 2
  have k_Cw_3 := Cw.out.cell 3
  have k_Cw_4 := Cw.out.cell 4
  have k_Cw_5 := Cw.out.cell 5
  have k_Cw_6 := Cw.out.cell 6
  have k_Cw_7 := Cw.out.cell 7
  have k_Cw_8 := Cw.out.cell 8
  have k_X0_0 := X0.out.cell 0
  have k_X0_1 := X0.out.cell 1
  have k_X1_0 := X1.out.cell 0
  have k_X1_1 := X1.out.cell 1
  have k_X1_2 := X1.out.cell 2
  have k_Cg_0 := Cg.out.cell 0
  have k_Cg_1 := Cg.out.cell 1
  have k_Cg_2 := Cg.out.cell 2
  have k_Cg_3 := Cg.out.cell 3
  have k_Cg_4 := Cg.out.cell 4
  have k_Cg_5 := Cg.out.cell 5
  have k_Cg_6 := Cg.out.cell 6
  have k_Cg_7 := Cg.out.cell 7
  have k_Cg_8 := Cg.out.cell 8
  simp at k_B0_0 k_B0_1 k_B1_0 k_B1_1 k_B1_2 k_BT_0 k_BT_1 k_Cw_0 k_Cw_1 k_Cw_2 k_Cw_3 k_Cw_4 k_Cw_5 k_Cw_6 k_Cw_7 k_Cw_8 k_X0_0 k_X0_1 k_X1_0 k_X1_1 k_X1_2 k_Cg_0 k_Cg_1 k_Cg_2 k_Cg_3 k_Cg_4 k_Cg_5 k_Cg_6 k_Cg_7 k_Cg_8
  go_wp2_with fail
  clear k_B0_0 k_B0_1 k_B1_0 k_B1_1 k_B1_2 k_BT_0 k_BT_1 k_Cw_0 k_Cw_1 k_Cw_2 k_Cw_3 k_Cw_4 k_Cw_5 k_Cw_6 k_Cw_7 k_Cw_8 k_X0_0 k_X0_1 k_X1_0 k_X1_1 k_X1_2 k_Cg_0 k_Cg_1 k_Cg_2 k_Cg_3 k_Cg_4 k_Cg_5 k_Cg_6 k_Cg_7 k_Cg_8
  refine (eqEngine_p r0 _ _ _ Ogr0.out.rd Owr0.out.rd HL0.out).mono ?_
  rintro e y ⟨rfl, g⟩
  have E := Lib.hid (Blk.grow B0.out g)
  clear B0
  have B0 := E
  clear E
  have E := Lib.hid (Blk.grow B1.out g)
  clear B1
  have B1 := E
  clear E
  have E := Lib.hid (Blk.grow BT.out g)
  clear BT
  have BT := E
  clear E
  have E := Lib.hid (Blk.grow Cw.out g)
  clear Cw
  have Cw := E
  clear E
  have E := Lib.hid (Blk.grow X0.out g)
  clear X0
  have X0 := E
  clear E
  have E := Lib.hid (Blk.grow X1.out g)
  clear X1
  have X1 := E
  clear E
  have E := Lib.hid (Blk.grow Cg.out g)
  clear Cg
  have Cg := E
  clear E
  have E := Lib.hid (AggO.grow Owr0.out g)
  clear Owr0
  have Owr0 := E
  clear E
  have E := Lib.hid (AggO.grow Ox0.out g)
  clear Ox0
  have Ox0 := E
  clear E
  have E := Lib.hid (AggO.grow Ox1.out g)
  clear Ox1
  have Ox1 := E
  clear E
  have E := Lib.hid (own_growK _ Ox2.out g)
  clear Ox2
  have Ox2 := E
  clear E
  have E := Lib.hid (AggO.grow Ogr0.out g)
  clear Ogr0
  have Ogr0 := E
  clear E
  have z10 := World.grownBy.size g
  try simp at z10
  have E := Lib.hid (gbT G.out g)
  clear G
  have G := E
  clear E
  clear g
  have k_B0_0 := B0.out.cell 0
  have k_B0_1 := B0.out.cell 1
  have k_B1_0 := B1.out.cell 0
  have k_B1_1 := B1.out.cell 1
  have k_B1_2 := B1.out.cell 2
  have k_BT_0 := BT.out.cell 0
  have k_BT_1 := BT.out.cell 1
  have k_Cw_0 := Cw.out.cell 0
  have k_Cw_1 := Cw.out.cell 1
  have k_Cw_2 := Cw.out.cell 2
  have k_Cw_3 := Cw.out.cell 3
  have k_Cw_4 := Cw.out.cell 4
  have k_Cw_5 := Cw.out.cell 5
  have k_Cw_6 := Cw.out.cell 6
  have k_Cw_7 := Cw.out.cell 7
  have k_Cw_8 := Cw.out.cell 8
  have k_X0_0 := X0.out.cell 0
  have k_X0_1 := X0.out.cell 1
  have k_X1_0 := X1.out.cell 0
  have k_X1_1 := X1.out.cell 1
  have k_X1_2 := X1.out.cell 2
  have k_Cg_0 := Cg.out.cell 0
  have k_Cg_1 := Cg.out.cell 1
  have k_Cg_2 := Cg.out.cell 2
  have k_Cg_3 := Cg.out.cell 3
  have k_Cg_4 := Cg.out.cell 4
  have k_Cg_5 := Cg.out.cell 5
  have k_Cg_6 := Cg.out.cell 6
  have k_Cg_7 := Cg.out.cell 7
  have k_Cg_8 := Cg.out.cell 8
  simp at k_B0_0 k_B0_1 k_B1_0 k_B1_1 k_B1_2 k_BT_0 k_BT_1 k_Cw_0 k_Cw_1 k_Cw_2 k_Cw_3 k_Cw_4 k_Cw_5 k_Cw_6 k_Cw_7 k_Cw_8 k_X0_0 k_X0_1 k_X1_0 k_X1_1 k_X1_2 k_Cg_0 k_Cg_1 k_Cg_2 k_Cg_3 k_Cg_4 k_Cg_5 k_Cg_6 k_Cg_7 k_Cg_8
  go_wp2_with fail
  clear k_B0_0 k_B0_1 k_B1_0 k_B1_1 k_B1_2 k_BT_0 k_BT_1 k_Cw_0 k_Cw_1 k_Cw_2 k_Cw_3 k_Cw_4 k_Cw_5 k_Cw_6 k_Cw_7 k_Cw_8 k_X0_0 k_X0_1 k_X1_0 k_X1_1 k_X1_2 k_Cg_0 k_Cg_1 k_Cg_2 k_Cg_3 k_Cg_4 k_Cg_5 k_Cg_6 k_Cg_7 k_Cg_8
  refine region_grow [isV (.agg #[.int .i64 kk.p, .slice ax0_1 nx0_1 sx0_1]), isV (.agg #[.int .i64 kk.p, p0_1]), fun v w => AggR w (ckeys kk) v, isV (.bool true), isV (.bool false)] (by kernel_rfl) (by kernel_rfl) (by kernel_rfl) (by simp only [stables, List.mem_cons, List.not_mem_nil, or_false, forall_eq_or_imp, forall_eq]; exact ⟨isV_st _, isV_st _, fun _ _ _ h hg => AggR.grow h hg, isV_st _, isV_st _⟩) ?_ ?_
  · simp only [hops, and_true]
    refine ⟨?_, ?_, ?_, ?_, ?_⟩
    all_goals
      intro f w1 hG hd
      have k_X0_0 := (X0.out.grow (gdT' hG)).cell 0
      have k_X0_1 := (X0.out.grow (gdT' hG)).cell 1
      have k_B0_0 := (B0.out.grow (gdT' hG)).cell 0
      have k_B0_1 := (B0.out.grow (gdT' hG)).cell 1
      simp at k_X0_0 k_X0_1 k_B0_0 k_B0_1
      have GG := Lib.hid (gbT G.out (gdT' hG))
      have OO := Lib.hid (AggR.grow (Ox0.out.grow (gdT' hG)).rd (gbR _ _))
      simp [deps, tAt, isV] at hd
      first | simp [puts, dsts, Act.put, hd] | simp [puts, dsts, Act.put]
      go_wp2_with (first | (go_at_call 36; refine (toKeys_k kk _ _ (AggR.grow HA0.out GG.out) HZ0.out).mono ?_; rintro e w2 ⟨uu, FF, rfl, oo, ll, hw⟩) | (go_at_call 40; refine (eqKeys_k kk _ _ _ OO.out hd.2 HZ0.out).mono ?_; rintro e w2 ⟨rfl, hw⟩))
    all_goals exact ⟨_, rfl, by first | with_reducible exact gbR _ _ | exact hw, by first | (simp [tAt, isV]; done) | exact oo.rd⟩
  · intro f y hG hd
    have g := gdT' hG
    simp [knows, tAt, isV] at hd
    obtain ⟨h1, h2, h3, h4, h5⟩ := hd
    have E := Lib.hid (Blk.grow B0.out g)
    clear B0
    have B0 := E
    clear E
    have E := Lib.hid (Blk.grow B1.out g)
    clear B1
    have B1 := E
    clear E
    have E := Lib.hid (Blk.grow BT.out g)
    clear BT
    have BT := E
    clear E
    have E := Lib.hid (Blk.grow Cw.out g)
    clear Cw
    have Cw := E
    clear E
    have E := Lib.hid (Blk.grow X0.out g)
    clear X0
    have X0 := E
    clear E
    have E := Lib.hid (Blk.grow X1.out g)
    clear X1
    have X1 := E
    clear E
    have E := Lib.hid (Blk.grow Cg.out g)
    clear Cg
    have Cg := E
    clear E
    have E := Lib.hid (AggO.grow Owr0.out g)
    clear Owr0
    have Owr0 := E
    clear E
    have E := Lib.hid (AggO.grow Ox0.out g)
    clear Ox0
    have Ox0 := E
    clear E
    have E := Lib.hid (AggO.grow Ox1.out g)
    clear Ox1
    have Ox1 := E
    clear E
    have E := Lib.hid (own_growK _ Ox2.out g)
    clear Ox2
    have Ox2 := E
    clear E
    have E := Lib.hid (AggO.grow Ogr0.out g)
    clear Ogr0
    have Ogr0 := E
    clear E
    have z11 := World.grownBy.size g
    try simp at z11
    have E := Lib.hid (gbT G.out g)
    clear G
    have G := E
    clear E
    clear g hG
    simp only [puts, dsts, Act.put, h1, h2, h4, h5, List.filterMap_cons, List.filterMap_nil, List.setIfInBounds_toArray, List.set_cons_zero, List.set_cons_succ]
    clear h1 h2 h3 h4 h5
    have k_B0_0 := B0.out.cell 0
    have k_B0_1 := B0.out.cell 1
    have k_B1_0 := B1.out.cell 0
    have k_B1_1 := B1.out.cell 1
    have k_B1_2 := B1.out.cell 2
    have k_BT_0 := BT.out.cell 0
    have k_BT_1 := BT.out.cell 1
    have k_Cw_0 := Cw.out.cell 0
    have k_Cw_1 := Cw.out.cell 1
    have k_Cw_2 := Cw.out.cell 2
    have k_Cw_3 := Cw.out.cell 3
    have k_Cw_4 := Cw.out.cell 4
    have k_Cw_5 := Cw.out.cell 5
    have k_Cw_6 := Cw.out.cell 6
    have k_Cw_7 := Cw.out.cell 7
    have k_Cw_8 := Cw.out.cell 8
    have k_X0_0 := X0.out.cell 0
    have k_X0_1 := X0.out.cell 1
    have k_X1_0 := X1.out.cell 0
    have k_X1_1 := X1.out.cell 1
    have k_X1_2 := X1.out.cell 2
    have k_Cg_0 := Cg.out.cell 0
    have k_Cg_1 := Cg.out.cell 1
    have k_Cg_2 := Cg.out.cell 2
    have k_Cg_3 := Cg.out.cell 3
    have k_Cg_4 := Cg.out.cell 4
    have k_Cg_5 := Cg.out.cell 5
    have k_Cg_6 := Cg.out.cell 6
    have k_Cg_7 := Cg.out.cell 7
    have k_Cg_8 := Cg.out.cell 8
    simp at k_B0_0 k_B0_1 k_B1_0 k_B1_1 k_B1_2 k_BT_0 k_BT_1 k_Cw_0 k_Cw_1 k_Cw_2 k_Cw_3 k_Cw_4 k_Cw_5 k_Cw_6 k_Cw_7 k_Cw_8 k_X0_0 k_X0_1 k_X1_0 k_X1_1 k_X1_2 k_Cg_0 k_Cg_1 k_Cg_2 k_Cg_3 k_Cg_4 k_Cg_5 k_Cg_6 k_Cg_7 k_Cg_8
    go_wp2_with fail
    clear k_B0_0 k_B0_1 k_B1_0 k_B1_1 k_B1_2 k_BT_0 k_BT_1 k_Cw_0 k_Cw_1 k_Cw_2 k_Cw_3 k_Cw_4 k_Cw_5 k_Cw_6 k_Cw_7 k_Cw_8 k_X0_0 k_X0_1 k_X1_0 k_X1_1 k_X1_2 k_Cg_0 k_Cg_1 k_Cg_2 k_Cg_3 k_Cg_4 k_Cg_5 k_Cg_6 k_Cg_7 k_Cg_8
    refine region_grow [isV (.agg #[.int .i64 cc.p, .slice ax1_1 nx1_1 sx1_1, .slice ax1_2 nx1_2 sx1_2]), isV (.agg #[.int .i64 cc.p, p1_1, p1_2]), fun v w => AggR w (carith cc) v, isV (.bool true), isV (.bool false)] (by kernel_rfl) (by kernel_rfl) (by kernel_rfl) (by simp only [stables, List.mem_cons, List.not_mem_nil, or_false, forall_eq_or_imp, forall_eq]; exact ⟨isV_st _, isV_st _, fun _ _ _ h hg => AggR.grow h hg, isV_st _, isV_st _⟩) ?_ ?_
    · simp only [hops, and_true]
      refine ⟨?_, ?_, ?_, ?_, ?_⟩
      all_goals
        intro f w1 hG hd
        have k_X1_0 := (X1.out.grow (gdT' hG)).cell 0
        have k_X1_1 := (X1.out.grow (gdT' hG)).cell 1
        have k_X1_2 := (X1.out.grow (gdT' hG)).cell 2
        have k_B1_0 := (B1.out.grow (gdT' hG)).cell 0
        have k_B1_1 := (B1.out.grow (gdT' hG)).cell 1
        have k_B1_2 := (B1.out.grow (gdT' hG)).cell 2
        simp at k_X1_0 k_X1_1 k_X1_2 k_B1_0 k_B1_1 k_B1_2
        have GG := Lib.hid (gbT G.out (gdT' hG))
        have OO := Lib.hid (AggR.grow (Ox1.out.grow (gdT' hG)).rd (gbR _ _))
        simp [deps, tAt, isV] at hd
        first | simp [puts, dsts, Act.put, hd] | simp [puts, dsts, Act.put]
        go_wp2_with (first | (go_at_call 37; refine (toArith_k cc _ _ (AggR.grow HA1.out GG.out) (by have := HZ1.out; omega)).mono ?_; rintro e w2 ⟨uu, FF, rfl, oo, ll, hw⟩) | (go_at_call 41; refine (eqArith_k cc _ _ _ OO.out hd.2 (by have := HZ1.out; omega)).mono ?_; rintro e w2 ⟨rfl, hw⟩))
      all_goals exact ⟨_, rfl, by first | with_reducible exact gbR _ _ | exact hw, by first | (simp [tAt, isV]; done) | exact oo.rd⟩
    · intro f y hG hd
      have g := gdT' hG
      simp [knows, tAt, isV] at hd
      obtain ⟨h1, h2, h3, h4, h5⟩ := hd
      have E := Lib.hid (Blk.grow B0.out g)
      clear B0
      have B0 := E
      clear E
      have E := Lib.hid (Blk.grow B1.out g)
      clear B1
      have B1 := E
      clear E
      have E := Lib.hid (Blk.grow BT.out g)
      clear BT
      have BT := E
      clear E
      have E := Lib.hid (Blk.grow Cw.out g)
      clear Cw
      have Cw := E
      clear E
      have E := Lib.hid (Blk.grow X0.out g)
      clear X0
      have X0 := E
      clear E
      have E := Lib.hid (Blk.grow X1.out g)
      clear X1
      have X1 := E
      clear E
      have E := Lib.hid (Blk.grow Cg.out g)
      clear Cg
      have Cg := E
      clear E
      have E := Lib.hid (AggO.grow Owr0.out g)
      clear Owr0
      have Owr0 := E
      clear E
      have E := Lib.hid (AggO.grow Ox0.out g)
      clear Ox0
      have Ox0 := E
      clear E
      have E := Lib.hid (AggO.grow Ox1.out g)
      clear Ox1
      have Ox1 := E
      clear E
      have E := Lib.hid (own_growK _ Ox2.out g)
      clear Ox2
      have Ox2 := E
      clear E
      have E := Lib.hid (AggO.grow Ogr0.out g)
      clear Ogr0
      have Ogr0 := E
      clear E
      have z12 := World.grownBy.size g
      try simp at z12
      have E := Lib.hid (gbT G.out g)
      clear G
      have G := E
      clear E
      clear g hG
      simp only [puts, dsts, Act.put, h1, h2, h4, h5, List.filterMap_cons, List.filterMap_nil, List.setIfInBounds_toArray, List.set_cons_zero, List.set_cons_succ]
      clear h1 h2 h3 h4 h5
      have k_B0_0 := B0.out.cell 0
      have k_B0_1 := B0.out.cell 1
      have k_B1_0 := B1.out.cell 0
      have k_B1_1 := B1.out.cell 1
      have k_B1_2 := B1.out.cell 2
      have k_BT_0 := BT.out.cell 0
      have k_BT_1 := BT.out.cell 1
      have k_Cw_0 := Cw.out.cell 0
      have k_Cw_1 := Cw.out.cell 1
      have k_Cw_2 := Cw.out.cell 2
      have k_Cw_3 := Cw.out.cell 3
      have k_Cw_4 := Cw.out.cell 4
      have k_Cw_5 := Cw.out.cell 5
      have k_Cw_6 := Cw.out.cell 6
      have k_Cw_7 := Cw.out.cell 7
      have k_Cw_8 := Cw.out.cell 8
      have k_X0_0 := X0.out.cell 0
      have k_X0_1 := X0.out.cell 1
      have k_X1_0 := X1.out.cell 0
      have k_X1_1 := X1.out.cell 1
      have k_X1_2 := X1.out.cell 2
      have k_Cg_0 := Cg.out.cell 0
      have k_Cg_1 := Cg.out.cell 1
      have k_Cg_2 := Cg.out.cell 2
      have k_Cg_3 := Cg.out.cell 3
      have k_Cg_4 := Cg.out.cell 4
      have k_Cg_5 := Cg.out.cell 5
      have k_Cg_6 := Cg.out.cell 6
      have k_Cg_7 := Cg.out.cell 7
      have k_Cg_8 := Cg.out.cell 8
      simp at k_B0_0 k_B0_1 k_B1_0 k_B1_1 k_B1_2 k_BT_0 k_BT_1 k_Cw_0 k_Cw_1 k_Cw_2 k_Cw_3 k_Cw_4 k_Cw_5 k_Cw_6 k_Cw_7 k_Cw_8 k_X0_0 k_X0_1 k_X1_0 k_X1_1 k_X1_2 k_Cg_0 k_Cg_1 k_Cg_2 k_Cg_3 k_Cg_4 k_Cg_5 k_Cg_6 k_Cg_7 k_Cg_8
      go_wp2_with fail
      clear k_B0_0 k_B0_1 k_B1_0 k_B1_1 k_B1_2 k_BT_0 k_BT_1 k_Cw_0 k_Cw_1 k_Cw_2 k_Cw_3 k_Cw_4 k_Cw_5 k_Cw_6 k_Cw_7 k_Cw_8 k_X0_0 k_X0_1 k_X1_0 k_X1_1 k_X1_2 k_Cg_0 k_Cg_1 k_Cg_2 k_Cg_3 k_Cg_4 k_Cg_5 k_Cg_6 k_Cg_7 k_Cg_8
      refine (toIntS_k es _ _ (CS.grow _ HA2.out G.out) HZ2.out).mono ?_
      rintro e y ⟨uu, Fy2, rfl, oo, ll, g⟩
      obtain ⟨ay2, ny2, sy2, rfl⟩ := row_form oo
      try simp at ll
      have Oy2 := Lib.hid oo
      have Ly2 := Lib.hid ll
      have Uy2 := Lib.hid (CS.lt _ oo)
      have E := Lib.hid (Blk.grow B0.out g)
      clear B0
      have B0 := E
      clear E
      have E := Lib.hid (Blk.grow B1.out g)
      clear B1
      have B1 := E
      clear E
      have E := Lib.hid (Blk.grow BT.out g)
      clear BT
      have BT := E
      clear E
      have E := Lib.hid (Blk.grow Cw.out g)
      clear Cw
      have Cw := E
      clear E
      have E := Lib.hid (Blk.grow X0.out g)
      clear X0
      have X0 := E
      clear E
      have E := Lib.hid (Blk.grow X1.out g)
      clear X1
      have X1 := E
      clear E
      have E := Lib.hid (Blk.grow Cg.out g)
      clear Cg
      have Cg := E
      clear E
      have E := Lib.hid (AggO.grow Owr0.out g)
      clear Owr0
      have Owr0 := E
      clear E
      have E := Lib.hid (AggO.grow Ox0.out g)
      clear Ox0
      have Ox0 := E
      clear E
      have E := Lib.hid (AggO.grow Ox1.out g)
      clear Ox1
      have Ox1 := E
      clear E
      have E := Lib.hid (own_growK _ Ox2.out g)
      clear Ox2
      have Ox2 := E
      clear E
      have E := Lib.hid (AggO.grow Ogr0.out g)
      clear Ogr0
      have Ogr0 := E
      clear E
      have z13 := World.grownBy.size g
      try simp at z13
      have E := Lib.hid (gbT G.out g)
      clear G
      have G := E
      clear E
      clear g oo ll
      have k_B0_0 := B0.out.cell 0
      have k_B0_1 := B0.out.cell 1
      have k_B1_0 := B1.out.cell 0
      have k_B1_1 := B1.out.cell 1
      have k_B1_2 := B1.out.cell 2
      have k_BT_0 := BT.out.cell 0
      have k_BT_1 := BT.out.cell 1
      have k_Cw_0 := Cw.out.cell 0
      have k_Cw_1 := Cw.out.cell 1
      have k_Cw_2 := Cw.out.cell 2
      have k_Cw_3 := Cw.out.cell 3
      have k_Cw_4 := Cw.out.cell 4
      have k_Cw_5 := Cw.out.cell 5
      have k_Cw_6 := Cw.out.cell 6
      have k_Cw_7 := Cw.out.cell 7
      have k_Cw_8 := Cw.out.cell 8
      have k_X0_0 := X0.out.cell 0
      have k_X0_1 := X0.out.cell 1
      have k_X1_0 := X1.out.cell 0
      have k_X1_1 := X1.out.cell 1
      have k_X1_2 := X1.out.cell 2
      have k_Cg_0 := Cg.out.cell 0
      have k_Cg_1 := Cg.out.cell 1
      have k_Cg_2 := Cg.out.cell 2
      have k_Cg_3 := Cg.out.cell 3
      have k_Cg_4 := Cg.out.cell 4
      have k_Cg_5 := Cg.out.cell 5
      have k_Cg_6 := Cg.out.cell 6
      have k_Cg_7 := Cg.out.cell 7
      have k_Cg_8 := Cg.out.cell 8
      simp at k_B0_0 k_B0_1 k_B1_0 k_B1_1 k_B1_2 k_BT_0 k_BT_1 k_Cw_0 k_Cw_1 k_Cw_2 k_Cw_3 k_Cw_4 k_Cw_5 k_Cw_6 k_Cw_7 k_Cw_8 k_X0_0 k_X0_1 k_X1_0 k_X1_1 k_X1_2 k_Cg_0 k_Cg_1 k_Cg_2 k_Cg_3 k_Cg_4 k_Cg_5 k_Cg_6 k_Cg_7 k_Cg_8
      go_wp2_with fail
      clear k_B0_0 k_B0_1 k_B1_0 k_B1_1 k_B1_2 k_BT_0 k_BT_1 k_Cw_0 k_Cw_1 k_Cw_2 k_Cw_3 k_Cw_4 k_Cw_5 k_Cw_6 k_Cw_7 k_Cw_8 k_X0_0 k_X0_1 k_X1_0 k_X1_1 k_X1_2 k_Cg_0 k_Cg_1 k_Cg_2 k_Cg_3 k_Cg_4 k_Cg_5 k_Cg_6 k_Cg_7 k_Cg_8
      refine (eqIntS_k es _ _ _ (CS.toRd _ Ox2.out) (CS.toRd _ Oy2.out) HZ2.out).mono ?_
      rintro e y ⟨rfl, g⟩
      have E := Lib.hid (Blk.grow B0.out g)
      clear B0
      have B0 := E
      clear E
      have E := Lib.hid (Blk.grow B1.out g)
      clear B1
      have B1 := E
      clear E
      have E := Lib.hid (Blk.grow BT.out g)
      clear BT
      have BT := E
      clear E
      have E := Lib.hid (Blk.grow Cw.out g)
      clear Cw
      have Cw := E
      clear E
      have E := Lib.hid (Blk.grow X0.out g)
      clear X0
      have X0 := E
      clear E
      have E := Lib.hid (Blk.grow X1.out g)
      clear X1
      have X1 := E
      clear E
      have E := Lib.hid (Blk.grow Cg.out g)
      clear Cg
      have Cg := E
      clear E
      have E := Lib.hid (AggO.grow Owr0.out g)
      clear Owr0
      have Owr0 := E
      clear E
      have E := Lib.hid (AggO.grow Ox0.out g)
      clear Ox0
      have Ox0 := E
      clear E
      have E := Lib.hid (AggO.grow Ox1.out g)
      clear Ox1
      have Ox1 := E
      clear E
      have E := Lib.hid (own_growK _ Ox2.out g)
      clear Ox2
      have Ox2 := E
      clear E
      have E := Lib.hid (AggO.grow Ogr0.out g)
      clear Ogr0
      have Ogr0 := E
      clear E
      have E := Lib.hid (own_growK _ Oy2.out g)
      clear Oy2
      have Oy2 := E
      clear E
      have z14 := World.grownBy.size g
      try simp at z14
      have E := Lib.hid (gbT G.out g)
      clear G
      have G := E
      clear E
      clear g
      clear Oy2 Ly2 Uy2
      have k_B0_0 := B0.out.cell 0
      have k_B0_1 := B0.out.cell 1
      have k_B1_0 := B1.out.cell 0
      have k_B1_1 := B1.out.cell 1
      have k_B1_2 := B1.out.cell 2
      have k_BT_0 := BT.out.cell 0
      have k_BT_1 := BT.out.cell 1
      have k_Cw_0 := Cw.out.cell 0
      have k_Cw_1 := Cw.out.cell 1
      have k_Cw_2 := Cw.out.cell 2
      have k_Cw_3 := Cw.out.cell 3
      have k_Cw_4 := Cw.out.cell 4
      have k_Cw_5 := Cw.out.cell 5
      have k_Cw_6 := Cw.out.cell 6
      have k_Cw_7 := Cw.out.cell 7
      have k_Cw_8 := Cw.out.cell 8
      have k_X0_0 := X0.out.cell 0
      have k_X0_1 := X0.out.cell 1
      have k_X1_0 := X1.out.cell 0
      have k_X1_1 := X1.out.cell 1
      have k_X1_2 := X1.out.cell 2
      have k_Cg_0 := Cg.out.cell 0
      have k_Cg_1 := Cg.out.cell 1
      have k_Cg_2 := Cg.out.cell 2
      have k_Cg_3 := Cg.out.cell 3
      have k_Cg_4 := Cg.out.cell 4
      have k_Cg_5 := Cg.out.cell 5
      have k_Cg_6 := Cg.out.cell 6
      have k_Cg_7 := Cg.out.cell 7
      have k_Cg_8 := Cg.out.cell 8
      simp at k_B0_0 k_B0_1 k_B1_0 k_B1_1 k_B1_2 k_BT_0 k_BT_1 k_Cw_0 k_Cw_1 k_Cw_2 k_Cw_3 k_Cw_4 k_Cw_5 k_Cw_6 k_Cw_7 k_Cw_8 k_X0_0 k_X0_1 k_X1_0 k_X1_1 k_X1_2 k_Cg_0 k_Cg_1 k_Cg_2 k_Cg_3 k_Cg_4 k_Cg_5 k_Cg_6 k_Cg_7 k_Cg_8
      go_wp2_with fail
      clear k_B0_0 k_B0_1 k_B1_0 k_B1_1 k_B1_2 k_BT_0 k_BT_1 k_Cw_0 k_Cw_1 k_Cw_2 k_Cw_3 k_Cw_4 k_Cw_5 k_Cw_6 k_Cw_7 k_Cw_8 k_X0_0 k_X0_1 k_X1_0 k_X1_1 k_X1_2 k_Cg_0 k_Cg_1 k_Cg_2 k_Cg_3 k_Cg_4 k_Cg_5 k_Cg_6 k_Cg_7 k_Cg_8
      refine (markKeys_k kk _ Fx0 (1) _ Ox0.out HZ0.out (by omega) (by omega)).mono ?_
      rintro e y ⟨rfl, oo, cc9⟩
      clear Ox0
      have Ox0 := Lib.hid oo
      clear oo
      have E := Lib.hid (blk_chg B0.out cc9 (fun hg => by have h1 := Lx0.out _ hg; have h2 := Ux0.out _ hg; omega))
      clear B0
      have B0 := E
      clear E
      have E := Lib.hid (blk_chg B1.out cc9 (fun hg => by have h1 := Lx0.out _ hg; have h2 := Ux0.out _ hg; omega))
      clear B1
      have B1 := E
      clear E
      have E := Lib.hid (blk_chg BT.out cc9 (fun hg => by have h1 := Lx0.out _ hg; have h2 := Ux0.out _ hg; omega))
      clear BT
      have BT := E
      clear E
      have E := Lib.hid (blk_chg Cw.out cc9 (fun hg => by have h1 := Lx0.out _ hg; have h2 := Ux0.out _ hg; omega))
      clear Cw
      have Cw := E
      clear E
      have E := Lib.hid (blk_chg X0.out cc9 (fun hg => by have h1 := Lx0.out _ hg; have h2 := Ux0.out _ hg; omega))
      clear X0
      have X0 := E
      clear E
      have E := Lib.hid (blk_chg X1.out cc9 (fun hg => by have h1 := Lx0.out _ hg; have h2 := Ux0.out _ hg; omega))
      clear X1
      have X1 := E
      clear E
      have E := Lib.hid (blk_chg Cg.out cc9 (fun hg => by have h1 := Lx0.out _ hg; have h2 := Ux0.out _ hg; omega))
      clear Cg
      have Cg := E
      clear E
      have E := Lib.hid (AggO.chg Owr0.out cc9 (fun g hg hx => by have h1 := Lwr0.out g hg; have h2 := Uwr0.out g hg; have h3 := Lx0.out g hx; have h4 := Ux0.out g hx; omega))
      clear Owr0
      have Owr0 := E
      clear E
      have E := Lib.hid (AggO.chg Ox1.out cc9 (fun g hg hx => by have h1 := Lx1.out g hg; have h2 := Ux1.out g hg; have h3 := Lx0.out g hx; have h4 := Ux0.out g hx; omega))
      clear Ox1
      have Ox1 := E
      clear E
      have E := Lib.hid (own_chgK _ Ox2.out cc9 (fun g hg hx => by have h1 := Lx2.out g hg; have h2 := Ux2.out g hg; have h3 := Lx0.out g hx; have h4 := Ux0.out g hx; omega))
      clear Ox2
      have Ox2 := E
      clear E
      have E := Lib.hid (AggO.chg Ogr0.out cc9 (fun g hg hx => by have h1 := Lgr0.out g hg; have h2 := Ugr0.out g hg; have h3 := Lx0.out g hx; have h4 := Ux0.out g hx; omega))
      clear Ogr0
      have Ogr0 := E
      clear E
      have z15 := Chg.size cc9
      try simp at z15
      have E := Lib.hid (Chg.new G.out cc9 (fun g hg => by have h1 := Lx0.out g hg; omega))
      clear G
      have G := E
      clear E
      clear cc9
      have k_B0_0 := B0.out.cell 0
      have k_B0_1 := B0.out.cell 1
      have k_B1_0 := B1.out.cell 0
      have k_B1_1 := B1.out.cell 1
      have k_B1_2 := B1.out.cell 2
      have k_BT_0 := BT.out.cell 0
      have k_BT_1 := BT.out.cell 1
      have k_Cw_0 := Cw.out.cell 0
      have k_Cw_1 := Cw.out.cell 1
      have k_Cw_2 := Cw.out.cell 2
      have k_Cw_3 := Cw.out.cell 3
      have k_Cw_4 := Cw.out.cell 4
      have k_Cw_5 := Cw.out.cell 5
      have k_Cw_6 := Cw.out.cell 6
      have k_Cw_7 := Cw.out.cell 7
      have k_Cw_8 := Cw.out.cell 8
      have k_X0_0 := X0.out.cell 0
      have k_X0_1 := X0.out.cell 1
      have k_X1_0 := X1.out.cell 0
      have k_X1_1 := X1.out.cell 1
      have k_X1_2 := X1.out.cell 2
      have k_Cg_0 := Cg.out.cell 0
      have k_Cg_1 := Cg.out.cell 1
      have k_Cg_2 := Cg.out.cell 2
      have k_Cg_3 := Cg.out.cell 3
      have k_Cg_4 := Cg.out.cell 4
      have k_Cg_5 := Cg.out.cell 5
      have k_Cg_6 := Cg.out.cell 6
      have k_Cg_7 := Cg.out.cell 7
      have k_Cg_8 := Cg.out.cell 8
      simp at k_B0_0 k_B0_1 k_B1_0 k_B1_1 k_B1_2 k_BT_0 k_BT_1 k_Cw_0 k_Cw_1 k_Cw_2 k_Cw_3 k_Cw_4 k_Cw_5 k_Cw_6 k_Cw_7 k_Cw_8 k_X0_0 k_X0_1 k_X1_0 k_X1_1 k_X1_2 k_Cg_0 k_Cg_1 k_Cg_2 k_Cg_3 k_Cg_4 k_Cg_5 k_Cg_6 k_Cg_7 k_Cg_8
      go_wp2_with fail
      clear k_B0_0 k_B0_1 k_B1_0 k_B1_1 k_B1_2 k_BT_0 k_BT_1 k_Cw_0 k_Cw_1 k_Cw_2 k_Cw_3 k_Cw_4 k_Cw_5 k_Cw_6 k_Cw_7 k_Cw_8 k_X0_0 k_X0_1 k_X1_0 k_X1_1 k_X1_2 k_Cg_0 k_Cg_1 k_Cg_2 k_Cg_3 k_Cg_4 k_Cg_5 k_Cg_6 k_Cg_7 k_Cg_8
      refine (markArith_k cc _ Fx1 (kk.cnt (1)) _ Ox1.out (by have := HZ1.out; omega) (by omega) (by omega)).mono ?_
      rintro e y ⟨rfl, oo, cc9⟩
      clear Ox1
      have Ox1 := Lib.hid oo
      clear oo
      have E := Lib.hid (blk_chg B0.out cc9 (fun hg => by have h1 := Lx1.out _ hg; have h2 := Ux1.out _ hg; omega))
      clear B0
      have B0 := E
      clear E
      have E := Lib.hid (blk_chg B1.out cc9 (fun hg => by have h1 := Lx1.out _ hg; have h2 := Ux1.out _ hg; omega))
      clear B1
      have B1 := E
      clear E
      have E := Lib.hid (blk_chg BT.out cc9 (fun hg => by have h1 := Lx1.out _ hg; have h2 := Ux1.out _ hg; omega))
      clear BT
      have BT := E
      clear E
      have E := Lib.hid (blk_chg Cw.out cc9 (fun hg => by have h1 := Lx1.out _ hg; have h2 := Ux1.out _ hg; omega))
      clear Cw
      have Cw := E
      clear E
      have E := Lib.hid (blk_chg X0.out cc9 (fun hg => by have h1 := Lx1.out _ hg; have h2 := Ux1.out _ hg; omega))
      clear X0
      have X0 := E
      clear E
      have E := Lib.hid (blk_chg X1.out cc9 (fun hg => by have h1 := Lx1.out _ hg; have h2 := Ux1.out _ hg; omega))
      clear X1
      have X1 := E
      clear E
      have E := Lib.hid (blk_chg Cg.out cc9 (fun hg => by have h1 := Lx1.out _ hg; have h2 := Ux1.out _ hg; omega))
      clear Cg
      have Cg := E
      clear E
      have E := Lib.hid (AggO.chg Owr0.out cc9 (fun g hg hx => by have h1 := Lwr0.out g hg; have h2 := Uwr0.out g hg; have h3 := Lx1.out g hx; have h4 := Ux1.out g hx; omega))
      clear Owr0
      have Owr0 := E
      clear E
      have E := Lib.hid (AggO.chg Ox0.out cc9 (fun g hg hx => by have h1 := Lx0.out g hg; have h2 := Ux0.out g hg; have h3 := Lx1.out g hx; have h4 := Ux1.out g hx; omega))
      clear Ox0
      have Ox0 := E
      clear E
      have E := Lib.hid (own_chgK _ Ox2.out cc9 (fun g hg hx => by have h1 := Lx2.out g hg; have h2 := Ux2.out g hg; have h3 := Lx1.out g hx; have h4 := Ux1.out g hx; omega))
      clear Ox2
      have Ox2 := E
      clear E
      have E := Lib.hid (AggO.chg Ogr0.out cc9 (fun g hg hx => by have h1 := Lgr0.out g hg; have h2 := Ugr0.out g hg; have h3 := Lx1.out g hx; have h4 := Ux1.out g hx; omega))
      clear Ogr0
      have Ogr0 := E
      clear E
      have z16 := Chg.size cc9
      try simp at z16
      have E := Lib.hid (Chg.new G.out cc9 (fun g hg => by have h1 := Lx1.out g hg; omega))
      clear G
      have G := E
      clear E
      clear cc9
      have k_B0_0 := B0.out.cell 0
      have k_B0_1 := B0.out.cell 1
      have k_B1_0 := B1.out.cell 0
      have k_B1_1 := B1.out.cell 1
      have k_B1_2 := B1.out.cell 2
      have k_BT_0 := BT.out.cell 0
      have k_BT_1 := BT.out.cell 1
      have k_Cw_0 := Cw.out.cell 0
      have k_Cw_1 := Cw.out.cell 1
      have k_Cw_2 := Cw.out.cell 2
      have k_Cw_3 := Cw.out.cell 3
      have k_Cw_4 := Cw.out.cell 4
      have k_Cw_5 := Cw.out.cell 5
      have k_Cw_6 := Cw.out.cell 6
      have k_Cw_7 := Cw.out.cell 7
      have k_Cw_8 := Cw.out.cell 8
      have k_X0_0 := X0.out.cell 0
      have k_X0_1 := X0.out.cell 1
      have k_X1_0 := X1.out.cell 0
      have k_X1_1 := X1.out.cell 1
      have k_X1_2 := X1.out.cell 2
      have k_Cg_0 := Cg.out.cell 0
      have k_Cg_1 := Cg.out.cell 1
      have k_Cg_2 := Cg.out.cell 2
      have k_Cg_3 := Cg.out.cell 3
      have k_Cg_4 := Cg.out.cell 4
      have k_Cg_5 := Cg.out.cell 5
      have k_Cg_6 := Cg.out.cell 6
      have k_Cg_7 := Cg.out.cell 7
      have k_Cg_8 := Cg.out.cell 8
      simp at k_B0_0 k_B0_1 k_B1_0 k_B1_1 k_B1_2 k_BT_0 k_BT_1 k_Cw_0 k_Cw_1 k_Cw_2 k_Cw_3 k_Cw_4 k_Cw_5 k_Cw_6 k_Cw_7 k_Cw_8 k_X0_0 k_X0_1 k_X1_0 k_X1_1 k_X1_2 k_Cg_0 k_Cg_1 k_Cg_2 k_Cg_3 k_Cg_4 k_Cg_5 k_Cg_6 k_Cg_7 k_Cg_8
      go_wp2_with fail
      clear k_B0_0 k_B0_1 k_B1_0 k_B1_1 k_B1_2 k_BT_0 k_BT_1 k_Cw_0 k_Cw_1 k_Cw_2 k_Cw_3 k_Cw_4 k_Cw_5 k_Cw_6 k_Cw_7 k_Cw_8 k_X0_0 k_X0_1 k_X1_0 k_X1_1 k_X1_2 k_Cg_0 k_Cg_1 k_Cg_2 k_Cg_3 k_Cg_4 k_Cg_5 k_Cg_6 k_Cg_7 k_Cg_8
      refine (markIntS_k es _ Fx2 (cc.cnt (kk.cnt (1))) _ Ox2.out HZ2.out (by omega) (by omega)).mono ?_
      rintro e y ⟨rfl, oo, cc9⟩
      clear Ox2
      have Ox2 := Lib.hid oo
      clear oo
      have E := Lib.hid (blk_chg B0.out cc9 (fun hg => by have h1 := Lx2.out _ hg; have h2 := Ux2.out _ hg; omega))
      clear B0
      have B0 := E
      clear E
      have E := Lib.hid (blk_chg B1.out cc9 (fun hg => by have h1 := Lx2.out _ hg; have h2 := Ux2.out _ hg; omega))
      clear B1
      have B1 := E
      clear E
      have E := Lib.hid (blk_chg BT.out cc9 (fun hg => by have h1 := Lx2.out _ hg; have h2 := Ux2.out _ hg; omega))
      clear BT
      have BT := E
      clear E
      have E := Lib.hid (blk_chg Cw.out cc9 (fun hg => by have h1 := Lx2.out _ hg; have h2 := Ux2.out _ hg; omega))
      clear Cw
      have Cw := E
      clear E
      have E := Lib.hid (blk_chg X0.out cc9 (fun hg => by have h1 := Lx2.out _ hg; have h2 := Ux2.out _ hg; omega))
      clear X0
      have X0 := E
      clear E
      have E := Lib.hid (blk_chg X1.out cc9 (fun hg => by have h1 := Lx2.out _ hg; have h2 := Ux2.out _ hg; omega))
      clear X1
      have X1 := E
      clear E
      have E := Lib.hid (blk_chg Cg.out cc9 (fun hg => by have h1 := Lx2.out _ hg; have h2 := Ux2.out _ hg; omega))
      clear Cg
      have Cg := E
      clear E
      have E := Lib.hid (AggO.chg Owr0.out cc9 (fun g hg hx => by have h1 := Lwr0.out g hg; have h2 := Uwr0.out g hg; have h3 := Lx2.out g hx; have h4 := Ux2.out g hx; omega))
      clear Owr0
      have Owr0 := E
      clear E
      have E := Lib.hid (AggO.chg Ox0.out cc9 (fun g hg hx => by have h1 := Lx0.out g hg; have h2 := Ux0.out g hg; have h3 := Lx2.out g hx; have h4 := Ux2.out g hx; omega))
      clear Ox0
      have Ox0 := E
      clear E
      have E := Lib.hid (AggO.chg Ox1.out cc9 (fun g hg hx => by have h1 := Lx1.out g hg; have h2 := Ux1.out g hg; have h3 := Lx2.out g hx; have h4 := Ux2.out g hx; omega))
      clear Ox1
      have Ox1 := E
      clear E
      have E := Lib.hid (AggO.chg Ogr0.out cc9 (fun g hg hx => by have h1 := Lgr0.out g hg; have h2 := Ugr0.out g hg; have h3 := Lx2.out g hx; have h4 := Ux2.out g hx; omega))
      clear Ogr0
      have Ogr0 := E
      clear E
      have z17 := Chg.size cc9
      try simp at z17
      have E := Lib.hid (Chg.new G.out cc9 (fun g hg => by have h1 := Lx2.out g hg; omega))
      clear G
      have G := E
      clear E
      clear cc9
      clear Ox0 Lx0 Ux0
      clear Ox1 Lx1 Ux1
      clear Ox2 Lx2 Ux2
      have kp : ¬ (cc.cnt (kk.cnt (1))) + es.length < 0 := by omega
      have k_B0_0 := B0.out.cell 0
      have k_B0_1 := B0.out.cell 1
      have k_B1_0 := B1.out.cell 0
      have k_B1_1 := B1.out.cell 1
      have k_B1_2 := B1.out.cell 2
      have k_BT_0 := BT.out.cell 0
      have k_BT_1 := BT.out.cell 1
      have k_Cw_0 := Cw.out.cell 0
      have k_Cw_1 := Cw.out.cell 1
      have k_Cw_2 := Cw.out.cell 2
      have k_Cw_3 := Cw.out.cell 3
      have k_Cw_4 := Cw.out.cell 4
      have k_Cw_5 := Cw.out.cell 5
      have k_Cw_6 := Cw.out.cell 6
      have k_Cw_7 := Cw.out.cell 7
      have k_Cw_8 := Cw.out.cell 8
      have k_X0_0 := X0.out.cell 0
      have k_X0_1 := X0.out.cell 1
      have k_X1_0 := X1.out.cell 0
      have k_X1_1 := X1.out.cell 1
      have k_X1_2 := X1.out.cell 2
      have k_Cg_0 := Cg.out.cell 0
      have k_Cg_1 := Cg.out.cell 1
      have k_Cg_2 := Cg.out.cell 2
      have k_Cg_3 := Cg.out.cell 3
      have k_Cg_4 := Cg.out.cell 4
      have k_Cg_5 := Cg.out.cell 5
      have k_Cg_6 := Cg.out.cell 6
      have k_Cg_7 := Cg.out.cell 7
      have k_Cg_8 := Cg.out.cell 8
      simp at k_B0_0 k_B0_1 k_B1_0 k_B1_1 k_B1_2 k_BT_0 k_BT_1 k_Cw_0 k_Cw_1 k_Cw_2 k_Cw_3 k_Cw_4 k_Cw_5 k_Cw_6 k_Cw_7 k_Cw_8 k_X0_0 k_X0_1 k_X1_0 k_X1_1 k_X1_2 k_Cg_0 k_Cg_1 k_Cg_2 k_Cg_3 k_Cg_4 k_Cg_5 k_Cg_6 k_Cg_7 k_Cg_8
      go_wp2_with fail
      clear k_B0_0 k_B0_1 k_B1_0 k_B1_1 k_B1_2 k_BT_0 k_BT_1 k_Cw_0 k_Cw_1 k_Cw_2 k_Cw_3 k_Cw_4 k_Cw_5 k_Cw_6 k_Cw_7 k_Cw_8 k_X0_0 k_X0_1 k_X1_0 k_X1_1 k_X1_2 k_Cg_0 k_Cg_1 k_Cg_2 k_Cg_3 k_Cg_4 k_Cg_5 k_Cg_6 k_Cg_7 k_Cg_8
      refine (eqEngine_p r0 _ _ _ Ogr0.out.rd Owr0.out.rd HL0.out).mono ?_
      rintro e y ⟨rfl, g⟩
      have E := Lib.hid (Blk.grow B0.out g)
      clear B0
      have B0 := E
      clear E
      have E := Lib.hid (Blk.grow B1.out g)
      clear B1
      have B1 := E
      clear E
      have E := Lib.hid (Blk.grow BT.out g)
      clear BT
      have BT := E
      clear E
      have E := Lib.hid (Blk.grow Cw.out g)
      clear Cw
      have Cw := E
      clear E
      have E := Lib.hid (Blk.grow X0.out g)
      clear X0
      have X0 := E
      clear E
      have E := Lib.hid (Blk.grow X1.out g)
      clear X1
      have X1 := E
      clear E
      have E := Lib.hid (Blk.grow Cg.out g)
      clear Cg
      have Cg := E
      clear E
      have E := Lib.hid (AggO.grow Owr0.out g)
      clear Owr0
      have Owr0 := E
      clear E
      have E := Lib.hid (AggO.grow Ogr0.out g)
      clear Ogr0
      have Ogr0 := E
      clear E
      have z18 := World.grownBy.size g
      try simp at z18
      have E := Lib.hid (gbT G.out g)
      clear G
      have G := E
      clear E
      clear g
      have k_B0_0 := B0.out.cell 0
      have k_B0_1 := B0.out.cell 1
      have k_B1_0 := B1.out.cell 0
      have k_B1_1 := B1.out.cell 1
      have k_B1_2 := B1.out.cell 2
      have k_BT_0 := BT.out.cell 0
      have k_BT_1 := BT.out.cell 1
      have k_Cw_0 := Cw.out.cell 0
      have k_Cw_1 := Cw.out.cell 1
      have k_Cw_2 := Cw.out.cell 2
      have k_Cw_3 := Cw.out.cell 3
      have k_Cw_4 := Cw.out.cell 4
      have k_Cw_5 := Cw.out.cell 5
      have k_Cw_6 := Cw.out.cell 6
      have k_Cw_7 := Cw.out.cell 7
      have k_Cw_8 := Cw.out.cell 8
      have k_X0_0 := X0.out.cell 0
      have k_X0_1 := X0.out.cell 1
      have k_X1_0 := X1.out.cell 0
      have k_X1_1 := X1.out.cell 1
      have k_X1_2 := X1.out.cell 2
      have k_Cg_0 := Cg.out.cell 0
      have k_Cg_1 := Cg.out.cell 1
      have k_Cg_2 := Cg.out.cell 2
      have k_Cg_3 := Cg.out.cell 3
      have k_Cg_4 := Cg.out.cell 4
      have k_Cg_5 := Cg.out.cell 5
      have k_Cg_6 := Cg.out.cell 6
      have k_Cg_7 := Cg.out.cell 7
      have k_Cg_8 := Cg.out.cell 8
      simp at k_B0_0 k_B0_1 k_B1_0 k_B1_1 k_B1_2 k_BT_0 k_BT_1 k_Cw_0 k_Cw_1 k_Cw_2 k_Cw_3 k_Cw_4 k_Cw_5 k_Cw_6 k_Cw_7 k_Cw_8 k_X0_0 k_X0_1 k_X1_0 k_X1_1 k_X1_2 k_Cg_0 k_Cg_1 k_Cg_2 k_Cg_3 k_Cg_4 k_Cg_5 k_Cg_6 k_Cg_7 k_Cg_8
      go_wp2_with fail
      clear k_B0_0 k_B0_1 k_B1_0 k_B1_1 k_B1_2 k_BT_0 k_BT_1 k_Cw_0 k_Cw_1 k_Cw_2 k_Cw_3 k_Cw_4 k_Cw_5 k_Cw_6 k_Cw_7 k_Cw_8 k_X0_0 k_X0_1 k_X1_0 k_X1_1 k_X1_2 k_Cg_0 k_Cg_1 k_Cg_2 k_Cg_3 k_Cg_4 k_Cg_5 k_Cg_6 k_Cg_7 k_Cg_8
      refine (markEngine_p r0 _ Fg 1 _ Ogr0.out HL0.out (by omega) (by omega)).mono ?_
      rintro e y ⟨rfl, oo, cc9⟩
      clear Ogr0
      have Ogr0 := Lib.hid oo
      clear oo
      have E := Lib.hid (blk_chg B0.out cc9 (fun hg => by have h1 := Lgr0.out _ hg; have h2 := Ugr0.out _ hg; omega))
      clear B0
      have B0 := E
      clear E
      have E := Lib.hid (blk_chg B1.out cc9 (fun hg => by have h1 := Lgr0.out _ hg; have h2 := Ugr0.out _ hg; omega))
      clear B1
      have B1 := E
      clear E
      have E := Lib.hid (blk_chg BT.out cc9 (fun hg => by have h1 := Lgr0.out _ hg; have h2 := Ugr0.out _ hg; omega))
      clear BT
      have BT := E
      clear E
      have E := Lib.hid (blk_chg Cw.out cc9 (fun hg => by have h1 := Lgr0.out _ hg; have h2 := Ugr0.out _ hg; omega))
      clear Cw
      have Cw := E
      clear E
      have E := Lib.hid (blk_chg X0.out cc9 (fun hg => by have h1 := Lgr0.out _ hg; have h2 := Ugr0.out _ hg; omega))
      clear X0
      have X0 := E
      clear E
      have E := Lib.hid (blk_chg X1.out cc9 (fun hg => by have h1 := Lgr0.out _ hg; have h2 := Ugr0.out _ hg; omega))
      clear X1
      have X1 := E
      clear E
      have E := Lib.hid (blk_chg Cg.out cc9 houtg)
      clear Cg
      have Cg := E
      clear E
      have E := Lib.hid (AggO.chg Owr0.out cc9 (fun g hg hx => by have h1 := Lwr0.out g hg; have h2 := Uwr0.out g hg; have h3 := Lgr0.out g hx; have h4 := Ugr0.out g hx; omega))
      clear Owr0
      have Owr0 := E
      clear E
      have z19 := Chg.size cc9
      try simp at z19
      have E := Lib.hid (Chg.new G.out cc9 (fun g hg => by have h1 := Lgr0.out g hg; omega))
      clear G
      have G := E
      clear E
      clear cc9
      have k_B0_0 := B0.out.cell 0
      have k_B0_1 := B0.out.cell 1
      have k_B1_0 := B1.out.cell 0
      have k_B1_1 := B1.out.cell 1
      have k_B1_2 := B1.out.cell 2
      have k_BT_0 := BT.out.cell 0
      have k_BT_1 := BT.out.cell 1
      have k_Cw_0 := Cw.out.cell 0
      have k_Cw_1 := Cw.out.cell 1
      have k_Cw_2 := Cw.out.cell 2
      have k_Cw_3 := Cw.out.cell 3
      have k_Cw_4 := Cw.out.cell 4
      have k_Cw_5 := Cw.out.cell 5
      have k_Cw_6 := Cw.out.cell 6
      have k_Cw_7 := Cw.out.cell 7
      have k_Cw_8 := Cw.out.cell 8
      have k_X0_0 := X0.out.cell 0
      have k_X0_1 := X0.out.cell 1
      have k_X1_0 := X1.out.cell 0
      have k_X1_1 := X1.out.cell 1
      have k_X1_2 := X1.out.cell 2
      have k_Cg_0 := Cg.out.cell 0
      have k_Cg_1 := Cg.out.cell 1
      have k_Cg_2 := Cg.out.cell 2
      have k_Cg_3 := Cg.out.cell 3
      have k_Cg_4 := Cg.out.cell 4
      have k_Cg_5 := Cg.out.cell 5
      have k_Cg_6 := Cg.out.cell 6
      have k_Cg_7 := Cg.out.cell 7
      have k_Cg_8 := Cg.out.cell 8
      simp at k_B0_0 k_B0_1 k_B1_0 k_B1_1 k_B1_2 k_BT_0 k_BT_1 k_Cw_0 k_Cw_1 k_Cw_2 k_Cw_3 k_Cw_4 k_Cw_5 k_Cw_6 k_Cw_7 k_Cw_8 k_X0_0 k_X0_1 k_X1_0 k_X1_1 k_X1_2 k_Cg_0 k_Cg_1 k_Cg_2 k_Cg_3 k_Cg_4 k_Cg_5 k_Cg_6 k_Cg_7 k_Cg_8
      go_wp2_with fail
      clear k_B0_0 k_B0_1 k_B1_0 k_B1_1 k_B1_2 k_BT_0 k_BT_1 k_Cw_0 k_Cw_1 k_Cw_2 k_Cw_3 k_Cw_4 k_Cw_5 k_Cw_6 k_Cw_7 k_Cw_8 k_X0_0 k_X0_1 k_X1_0 k_X1_1 k_X1_2 k_Cg_0 k_Cg_1 k_Cg_2 k_Cg_3 k_Cg_4 k_Cg_5 k_Cg_6 k_Cg_7 k_Cg_8
      refine (heldEngine_p r0 _ 1 _ Ogr0.out.rd HL0.out (by omega) (by omega)).mono ?_
      rintro e y ⟨rfl, g⟩
      have E := Lib.hid (Blk.grow B0.out g)
      clear B0
      have B0 := E
      clear E
      have E := Lib.hid (Blk.grow B1.out g)
      clear B1
      have B1 := E
      clear E
      have E := Lib.hid (Blk.grow BT.out g)
      clear BT
      have BT := E
      clear E
      have E := Lib.hid (Blk.grow Cw.out g)
      clear Cw
      have Cw := E
      clear E
      have E := Lib.hid (Blk.grow X0.out g)
      clear X0
      have X0 := E
      clear E
      have E := Lib.hid (Blk.grow X1.out g)
      clear X1
      have X1 := E
      clear E
      have E := Lib.hid (Blk.grow Cg.out g)
      clear Cg
      have Cg := E
      clear E
      have E := Lib.hid (AggO.grow Owr0.out g)
      clear Owr0
      have Owr0 := E
      clear E
      have E := Lib.hid (AggO.grow Ogr0.out g)
      clear Ogr0
      have Ogr0 := E
      clear E
      have z20 := World.grownBy.size g
      try simp at z20
      have E := Lib.hid (gbT G.out g)
      clear G
      have G := E
      clear E
      clear g
      have khr0 : ¬ r0.cnt 1 < 0 := by omega
      have k_B0_0 := B0.out.cell 0
      have k_B0_1 := B0.out.cell 1
      have k_B1_0 := B1.out.cell 0
      have k_B1_1 := B1.out.cell 1
      have k_B1_2 := B1.out.cell 2
      have k_BT_0 := BT.out.cell 0
      have k_BT_1 := BT.out.cell 1
      have k_Cw_0 := Cw.out.cell 0
      have k_Cw_1 := Cw.out.cell 1
      have k_Cw_2 := Cw.out.cell 2
      have k_Cw_3 := Cw.out.cell 3
      have k_Cw_4 := Cw.out.cell 4
      have k_Cw_5 := Cw.out.cell 5
      have k_Cw_6 := Cw.out.cell 6
      have k_Cw_7 := Cw.out.cell 7
      have k_Cw_8 := Cw.out.cell 8
      have k_X0_0 := X0.out.cell 0
      have k_X0_1 := X0.out.cell 1
      have k_X1_0 := X1.out.cell 0
      have k_X1_1 := X1.out.cell 1
      have k_X1_2 := X1.out.cell 2
      have k_Cg_0 := Cg.out.cell 0
      have k_Cg_1 := Cg.out.cell 1
      have k_Cg_2 := Cg.out.cell 2
      have k_Cg_3 := Cg.out.cell 3
      have k_Cg_4 := Cg.out.cell 4
      have k_Cg_5 := Cg.out.cell 5
      have k_Cg_6 := Cg.out.cell 6
      have k_Cg_7 := Cg.out.cell 7
      have k_Cg_8 := Cg.out.cell 8
      simp at k_B0_0 k_B0_1 k_B1_0 k_B1_1 k_B1_2 k_BT_0 k_BT_1 k_Cw_0 k_Cw_1 k_Cw_2 k_Cw_3 k_Cw_4 k_Cw_5 k_Cw_6 k_Cw_7 k_Cw_8 k_X0_0 k_X0_1 k_X1_0 k_X1_1 k_X1_2 k_Cg_0 k_Cg_1 k_Cg_2 k_Cg_3 k_Cg_4 k_Cg_5 k_Cg_6 k_Cg_7 k_Cg_8
      go_wp2_with fail
      clear k_B0_0 k_B0_1 k_B1_0 k_B1_1 k_B1_2 k_BT_0 k_BT_1 k_Cw_0 k_Cw_1 k_Cw_2 k_Cw_3 k_Cw_4 k_Cw_5 k_Cw_6 k_Cw_7 k_Cw_8 k_X0_0 k_X0_1 k_X1_0 k_X1_1 k_X1_2 k_Cg_0 k_Cg_1 k_Cg_2 k_Cg_3 k_Cg_4 k_Cg_5 k_Cg_6 k_Cg_7 k_Cg_8
      clear khr0
      have k_B0_0 := B0.out.cell 0
      have k_B0_1 := B0.out.cell 1
      have k_B1_0 := B1.out.cell 0
      have k_B1_1 := B1.out.cell 1
      have k_B1_2 := B1.out.cell 2
      have k_BT_0 := BT.out.cell 0
      have k_BT_1 := BT.out.cell 1
      have k_Cw_0 := Cw.out.cell 0
      have k_Cw_1 := Cw.out.cell 1
      have k_Cw_2 := Cw.out.cell 2
      have k_Cw_3 := Cw.out.cell 3
      have k_Cw_4 := Cw.out.cell 4
      have k_Cw_5 := Cw.out.cell 5
      have k_Cw_6 := Cw.out.cell 6
      have k_Cw_7 := Cw.out.cell 7
      have k_Cw_8 := Cw.out.cell 8
      have k_X0_0 := X0.out.cell 0
      have k_X0_1 := X0.out.cell 1
      have k_X1_0 := X1.out.cell 0
      have k_X1_1 := X1.out.cell 1
      have k_X1_2 := X1.out.cell 2
      have k_Cg_0 := Cg.out.cell 0
      have k_Cg_1 := Cg.out.cell 1
      have k_Cg_2 := Cg.out.cell 2
      have k_Cg_3 := Cg.out.cell 3
      have k_Cg_4 := Cg.out.cell 4
      have k_Cg_5 := Cg.out.cell 5
      have k_Cg_6 := Cg.out.cell 6
      have k_Cg_7 := Cg.out.cell 7
      have k_Cg_8 := Cg.out.cell 8
      simp at k_B0_0 k_B0_1 k_B1_0 k_B1_1 k_B1_2 k_BT_0 k_BT_1 k_Cw_0 k_Cw_1 k_Cw_2 k_Cw_3 k_Cw_4 k_Cw_5 k_Cw_6 k_Cw_7 k_Cw_8 k_X0_0 k_X0_1 k_X1_0 k_X1_1 k_X1_2 k_Cg_0 k_Cg_1 k_Cg_2 k_Cg_3 k_Cg_4 k_Cg_5 k_Cg_6 k_Cg_7 k_Cg_8
      go_wp2_with fail
      clear k_B0_0 k_B0_1 k_B1_0 k_B1_1 k_B1_2 k_BT_0 k_BT_1 k_Cw_0 k_Cw_1 k_Cw_2 k_Cw_3 k_Cw_4 k_Cw_5 k_Cw_6 k_Cw_7 k_Cw_8 k_X0_0 k_X0_1 k_X1_0 k_X1_1 k_X1_2 k_Cg_0 k_Cg_1 k_Cg_2 k_Cg_3 k_Cg_4 k_Cg_5 k_Cg_6 k_Cg_7 k_Cg_8
      have kB0a := Lib.hid (B0.out.cell 0)
      have kB0b := Lib.hid (B0.out.cell 1)
      have kB1a := Lib.hid (B1.out.cell 0)
      have kB1b := Lib.hid (B1.out.cell 1)
      have kB1c := Lib.hid (B1.out.cell 2)
      have kBTa := Lib.hid (BT.out.cell 0)
      have kBTb := Lib.hid (BT.out.cell 1)
      simp only [List.getElem?_toArray, List.getElem?_cons_succ, List.getElem?_cons_zero] at kB0a kB0b kB1a kB1b kB1c kBTa kBTb
      refine region_chain [.rd (.agg #[.int .i64 kk.p, p0_1]), .fl (aggF y.heap.size (ckeys kk)), .rd (.agg #[.int .i64 cc.p, p1_1, p1_2]), .fl (aggF y.heap.size (carith cc)), .rd (.slice pa2 es.length pc2), .fl (intF y.heap.size es), .rd (.agg #[.int .i64 ts, .int .i64 ta]), .fl (isV (.agg #[.int .i64 ts, .int .i64 ta])), .fl (engTupB y.heap.size r0 r1), .fl (engTupB y.heap.size r0 r1), .fl (aggF y.heap.size (cengine r0)), .rd (.bool r1), .ch, .ch, .ch] (fun x => y.heap.size ≤ x)
        [⟨[], fun _ w' => y.drew.grownBy w' none⟩,
         ⟨[20], fun l w' => (∃ g, l.getD 0 undef = .pointer (some ⟨g, 0, none⟩) ∧ y.heap.size ≤ g ∧ Blk w' g 36 #[.int .i64 0, .slice none 0 0, .int .i64 0, .slice none 0 0, .slice none 0 0, .slice none 0 0, .slice none 0 0, .int .i64 0, .bool false]) ∧ y.grownBy w' none⟩,
         ⟨[20], fun l w' => (∃ g, l.getD 0 undef = .pointer (some ⟨g, 0, none⟩) ∧ y.heap.size ≤ g ∧ sofF y.heap.size 36 (cengine r0) g w') ∧ y.grownBy w' none⟩,
         ⟨[20, 21], fun l w' => (∃ g, l.getD 0 undef = .pointer (some ⟨g, 0, none⟩) ∧ l.getD 1 undef = .bool r1 ∧ y.heap.size ≤ g ∧ sofF y.heap.size 36 (cengine r0) g w') ∧ y.grownBy w' none⟩]
        (by kernel_rfl) (by kernel_rfl) (by kernel_rfl) 3 (by kernel_rfl) ?_ (gbR _ _) rfl ?_ ?_
      · have hst : stablesF [⟨[], fun _ w' => y.drew.grownBy w' none⟩, ⟨[20], fun l w' => (∃ g, l.getD 0 undef = .pointer (some ⟨g, 0, none⟩) ∧ y.heap.size ≤ g ∧ Blk w' g 36 #[.int .i64 0, .slice none 0 0, .int .i64 0, .slice none 0 0, .slice none 0 0, .slice none 0 0, .slice none 0 0, .int .i64 0, .bool false]) ∧ y.grownBy w' none⟩, ⟨[20], fun l w' => (∃ g, l.getD 0 undef = .pointer (some ⟨g, 0, none⟩) ∧ y.heap.size ≤ g ∧ sofF y.heap.size 36 (cengine r0) g w') ∧ y.grownBy w' none⟩, ⟨[20, 21], fun l w' => (∃ g, l.getD 0 undef = .pointer (some ⟨g, 0, none⟩) ∧ l.getD 1 undef = .bool r1 ∧ y.heap.size ≤ g ∧ sofF y.heap.size 36 (cengine r0) g w') ∧ y.grownBy w' none⟩] := by
          refine stF_cons (fun l w1 w2 h hg => gbT h hg) ?_
          refine stF_cons (chain_st fun l w1 w2 ⟨⟨g, h1, h2, h3⟩, h4⟩ hg => ⟨⟨g, h1, h2, h3.grow hg⟩, gbT h4 hg⟩) ?_
          refine stF_cons (chain_st fun l w1 w2 ⟨⟨g, h1, h2, h3⟩, h4⟩ hg => ⟨⟨g, h1, h2, h3.grow hg⟩, gbT h4 hg⟩) ?_
          exact stF_cons (chain_st fun l w1 w2 ⟨⟨g, h1, h1', h2, h3⟩, h4⟩ hg => ⟨⟨g, h1, h1', h2, h3.grow hg⟩, gbT h4 hg⟩) stF_nil
        simp only [flOk, true_and, and_true]
        exact ⟨⟨aggF_st, hst⟩, ⟨aggF_st, hst⟩, ⟨intF_st, hst⟩, ⟨isV_st _, hst⟩, ⟨engTupB_st, hst⟩, ⟨engTupB_st, hst⟩, ⟨aggF_st, hst⟩⟩
      · simp only [hopsK, hopK, Kd.next, and_true]
        refine ⟨?_, ?_, ?_, ?_, ?_, ?_, ?_, ?_, ?_, ?_, ?_, ?_, ?_, ?_, ?_⟩
        · intro f w4 hG hd
          have hg4 := gbChg (gbD (gbR y none)) hG (fun y hy => hy)
          have k0 := gbk hg4 (kB0a.out)
          have k1 := gbk hg4 (kB0b.out)
          (try simp [depsC, dstAt, kAt, bindE, List.filter_cons, bd_data, bd_chain, bd_guard, bd_phase, bd_text, bd_gc] at hd)
          (first | simp [puts, dsts, Act.put, hd] | simp [puts, dsts, Act.put])
          clear hd
          go_wp2_with fail
          exact ⟨rfl, rfl⟩
        · intro f w4 hG hd
          have hg4 := gbChg (gbD (gbR y none)) hG (fun y hy => hy)
          have hz4 := hg4.size
          (try simp [depsC, dstAt, kAt, bindE, List.filter_cons, bd_data, bd_chain, bd_guard, bd_phase, bd_text, bd_gc] at hd)
          (first | simp [puts, dsts, Act.put, hd] | simp [puts, dsts, Act.put])
          clear hd
          go_wp2_with fail
          refine (toKeys_k kk _ w4 (AggR.grow HA0.out (gbT G.out hg4)) HZ0.out).mono ?_
          rintro e w6 ⟨uu, FF, rfl, oo, ll, hw⟩
          have O6 := Lib.hid (show aggF y.heap.size (ckeys kk) uu w6 from ⟨FF, oo, fun x hx => Nat.le_trans hz4 (ll x hx)⟩)
          obtain ⟨_, _, _, rfl⟩ := ckeys_oform oo
          have G6 := Lib.hid hw
          clear oo ll hw
          go_wp2_with fail
          exact ⟨_, rfl, O6.out, G6.out⟩
        · intro f w4 hG hd
          have hg4 := gbChg (gbD (gbR y none)) hG (fun y hy => hy)
          have k2 := gbk hg4 (kB1a.out)
          have k3 := gbk hg4 (kB1b.out)
          have k4 := gbk hg4 (kB1c.out)
          (try simp [depsC, dstAt, kAt, bindE, List.filter_cons, bd_data, bd_chain, bd_guard, bd_phase, bd_text, bd_gc] at hd)
          (first | simp [puts, dsts, Act.put, hd] | simp [puts, dsts, Act.put])
          clear hd
          go_wp2_with fail
          exact ⟨rfl, rfl⟩
        · intro f w4 hG hd
          have hg4 := gbChg (gbD (gbR y none)) hG (fun y hy => hy)
          have hz4 := hg4.size
          (try simp [depsC, dstAt, kAt, bindE, List.filter_cons, bd_data, bd_chain, bd_guard, bd_phase, bd_text, bd_gc] at hd)
          have hd := hd.1
          try simp only [isV] at hd
          simp [puts, dsts, Act.put, hd]
          clear hd
          go_wp2_with fail
          refine (toArith_k cc _ w4 (AggR.grow HA1.out (gbT G.out hg4)) (by have := HZ1.out; omega)).mono ?_
          rintro e w6 ⟨uu, FF, rfl, oo, ll, hw⟩
          have O6 := Lib.hid (show aggF y.heap.size (carith cc) uu w6 from ⟨FF, oo, fun x hx => Nat.le_trans hz4 (ll x hx)⟩)
          obtain ⟨_, _, _, _, _, _, rfl⟩ := carith_oform oo
          have G6 := Lib.hid hw
          clear oo ll hw
          go_wp2_with fail
          exact ⟨_, rfl, O6.out, G6.out⟩
        · intro f w4 hG hd
          have hg4 := gbChg (gbD (gbR y none)) hG (fun y hy => hy)
          (try simp [depsC, dstAt, kAt, bindE, List.filter_cons, bd_data, bd_chain, bd_guard, bd_phase, bd_text, bd_gc] at hd)
          (first | simp [puts, dsts, Act.put, hd] | simp [puts, dsts, Act.put])
          clear hd
          go_wp2_with fail
          exact ⟨rfl, rfl⟩
        · intro f w4 hG hd
          have hg4 := gbChg (gbD (gbR y none)) hG (fun y hy => hy)
          have hz4 := hg4.size
          (try simp [depsC, dstAt, kAt, bindE, List.filter_cons, bd_data, bd_chain, bd_guard, bd_phase, bd_text, bd_gc] at hd)
          have hd := hd.1
          try simp only [isV] at hd
          simp [puts, dsts, Act.put, hd]
          clear hd
          go_wp2_with fail
          refine (toIntS_k es _ w4 (CS.grow _ HA2.out (gbT G.out hg4)) HZ2.out).mono ?_
          rintro e w6 ⟨uu, FF, rfl, oo, ll, hw⟩
          have O6 := Lib.hid (show intF y.heap.size es uu w6 from intF.of oo (fun x hx => Nat.le_trans hz4 (ll x hx)))
          obtain ⟨_, _, _, rfl⟩ := row_form oo
          have G6 := Lib.hid hw
          clear oo ll hw
          go_wp2_with fail
          exact ⟨_, rfl, O6.out, G6.out⟩
        · intro f w4 hG hd
          have hg4 := gbChg (gbD (gbR y none)) hG (fun y hy => hy)
          have k5 := gbk hg4 (kBTa.out)
          have k6 := gbk hg4 (kBTb.out)
          (try simp [depsC, dstAt, kAt, bindE, List.filter_cons, bd_data, bd_chain, bd_guard, bd_phase, bd_text, bd_gc] at hd)
          (first | simp [puts, dsts, Act.put, hd] | simp [puts, dsts, Act.put])
          clear hd
          go_wp2_with fail
          exact ⟨rfl, rfl⟩
        · intro f w4 hG hd
          have hg4 := gbChg (gbD (gbR y none)) hG (fun y hy => hy)
          have hz4 := hg4.size
          (try simp [depsC, dstAt, kAt, bindE, List.filter_cons, bd_data, bd_chain, bd_guard, bd_phase, bd_text, bd_gc] at hd)
          first | have hd := hd.1 | skip
          try simp only [isV] at hd
          simp [puts, dsts, Act.put, hd]
          clear hd
          go_wp2_with fail
          refine (toTape_c ts ta w4).mono ?_
          rintro e w6 ⟨rfl, g6⟩
          have G6 := Lib.hid g6
          clear g6
          go_wp2_with fail
          exact ⟨_, rfl, rfl, G6.out⟩
        · intro f w4 hG hd
          have hg4 := gbChg (gbD (gbR y none)) hG (fun y hy => hy)
          have hz4 := hg4.size
          (try simp [depsC, dstAt, kAt, bindE, List.filter_cons, bd_data, bd_chain, bd_guard, bd_phase, bd_text, bd_gc] at hd)
          obtain ⟨h1, h2, h3, h4⟩ := hd
          first | have h4 := h4.1 | skip
          obtain ⟨Fk, k1, _⟩ := h1
          obtain ⟨Fa, k2, _⟩ := h2
          have k3 := intF.rd h3
          have R1 := Lib.hid k1.rd
          have R2 := Lib.hid k2.rd
          have R3 := Lib.hid k3
          try simp only [isV] at h4
          simp [puts, dsts, Act.put, h4]
          clear h3 h4 k1 k2 k3
          go_wp2_with fail
          refine (HI.out w4 _ _ _ R1.out R2.out R3.out).mono ?_
          rintro e w6 ⟨v6, F6, rfl, o6, l6, g6⟩
          obtain ⟨A', B', C', D', E', a', b', c', d', e', rfl, _⟩ := cengine_open o6.rd
          have O6 : Hid (engTupB y.heap.size r0 r1 _ w6) := Lib.hid ⟨A', B', C', D', E', a', b', c', d', e', rfl, F6, o6, fun x hx => Nat.le_trans hz4 (l6 x hx)⟩
          have G6 := Lib.hid g6
          clear o6 g6 l6
          go_wp2_with fail
          exact ⟨_, rfl, O6.out, G6.out⟩
        · intro f w4 hG hd
          have hg4 := gbChg (gbD (gbR y none)) hG (fun y hy => hy)
          have hz4 := hg4.size
          (try simp [depsC, dstAt, kAt, bindE, List.filter_cons, bd_data, bd_chain, bd_guard, bd_phase, bd_text, bd_gc] at hd)
          obtain ⟨A', B', C', D', E', a', b', c', d', e', e9, o6⟩ := hd
          simp [puts, dsts, Act.put, e9]
          go_wp2_with fail
          exact ⟨_, rfl, ⟨A', B', C', D', E', a', b', c', d', e', rfl, o6⟩, gbR _ _⟩
        · intro f w4 hG hd
          have hg4 := gbChg (gbD (gbR y none)) hG (fun y hy => hy)
          have hz4 := hg4.size
          (try simp [depsC, dstAt, kAt, bindE, List.filter_cons, bd_data, bd_chain, bd_guard, bd_phase, bd_text, bd_gc] at hd)
          obtain ⟨A', B', C', D', E', a', b', c', d', e', e9, o6⟩ := hd
          simp [puts, dsts, Act.put, e9]
          go_wp2_with fail
          exact ⟨_, rfl, o6, gbR _ _⟩
        · intro f w4 hG hd
          have hg4 := gbChg (gbD (gbR y none)) hG (fun y hy => hy)
          (try simp [depsC, dstAt, kAt, bindE, List.filter_cons, bd_data, bd_chain, bd_guard, bd_phase, bd_text, bd_gc] at hd)
          obtain ⟨A', B', C', D', E', a', b', c', d', e', e9, o6⟩ := hd
          simp [puts, dsts, Act.put, e9]
          go_wp2_with fail
          exact ⟨rfl, rfl⟩
        · intro f w4 hG hI hd
          have hg4 := gbChg (gbD (gbR y none)) hG (fun y hy => hy)
          have hz4 := hg4.size
          clear hd
          simp [puts, dsts, Act.put]
          go_wp2_with fail
          exact ⟨_, rfl, ⟨⟨_, rfl, hz4, Blk.new _ _ _⟩, gbA hg4 _⟩, ⟨chgA _ _, by simp [keepsC, dstAt]; exact ⟨fun h => aggF_st _ _ _ h (gbA (gbR _ _) _), fun h => aggF_st _ _ _ h (gbA (gbR _ _) _), fun h => intF_st _ _ _ h (gbA (gbR _ _) _), isV_w, fun h => engTupB_st _ _ _ h (gbA (gbR _ _) _), fun h => engTupB_st _ _ _ h (gbA (gbR _ _) _), fun h => aggF_st _ _ _ h (gbA (gbR _ _) _)⟩⟩⟩
        · intro f w4 hG hI hd
          have hg4 := gbChg (gbD (gbR y none)) hG (fun y hy => hy)
          have hz4 := hg4.size
          obtain ⟨⟨g9, e12, hg9, R4⟩, hI⟩ := hI
          have e12 : f 20 = .pointer (some ⟨g9, 0, none⟩) := e12
          (try simp [depsC, dstAt, kAt, bindE, List.filter_cons, bd_data, bd_chain, bd_guard, bd_phase, bd_text, bd_gc] at hd)
          have h40 : aggF y.heap.size (cengine r0) (f 129) w4 := by first | exact hd | exact hd.1 | exact hd.2 | exact hd.2.1
          clear hd
          obtain ⟨A9, B9, C9, D9, E9, a9, b9, c9, d9, e9, e40⟩ := h40.eng
          rw [e40] at h40
          obtain ⟨F4, o4, l4⟩ := h40
          have f0 := R4.frozen 0
          have f1 := R4.frozen 1
          have f2 := R4.frozen 2
          have f3 := R4.frozen 3
          have f4 := R4.frozen 4
          have f5 := R4.frozen 5
          have f6 := R4.frozen 6
          have f7 := R4.frozen 7
          have f8 := R4.frozen 8
          have b0 := R4.cell 0
          have b1 := R4.cell 1
          have b2 := R4.cell 2
          have b3 := R4.cell 3
          have b4 := R4.cell 4
          have b5 := R4.cell 5
          have b6 := R4.cell 6
          have b7 := R4.cell 7
          have b8 := R4.cell 8
          simp at b0 b1 b2 b3 b4 b5 b6 b7 b8
          have hgF := agg_ty (cengine_ty _) o4 R4 (by decide)
          have RS := SOF.store R4 (us := [.int .i64 r0.k.p, .slice A9 r0.k.al.length a9, .int .i64 r0.c.p, .slice B9 r0.c.st.length b9, .slice C9 r0.c.outs.length c9, .slice D9 r0.vs.length d9, .slice E9 r0.op.length e9, .int .i64 r0.rd, .bool r0.bad]) rfl o4 hgF
          have CH := chg_setCells g9 [.int .i64 r0.k.p, .slice A9 r0.k.al.length a9, .int .i64 r0.c.p, .slice B9 r0.c.st.length b9, .slice C9 r0.c.outs.length c9, .slice D9 r0.vs.length d9, .slice E9 r0.op.length e9, .int .i64 r0.rd, .bool r0.bad] 0 w4
          have K1 := Lib.hid (fun v (h : engTupB y.heap.size r0 r1 v w4) => engTupB_far h R4 CH (by decide))
          have K2 := Lib.hid (fun v (h : aggF y.heap.size (cengine r0) v w4) => aggF.farT (cengine_ty _) h R4 CH (by decide))
          have K3 := Lib.hid (fun v (h : aggF y.heap.size (ckeys kk) v w4) => aggF.farT (fun c hc => ka_ty kk cc c (List.mem_append_left _ hc)) h R4 CH (by decide))
          have K4 := Lib.hid (fun v (h : aggF y.heap.size (carith cc) v w4) => aggF.farT (fun c hc => ka_ty kk cc c (List.mem_append_right _ hc)) h R4 CH (by decide))
          have K5 := Lib.hid (fun v (h : intF y.heap.size es v w4) => intF.far h R4 CH (by decide))
          have GS := gb_chg hg4 CH hg9
          have CS9 := CH.mono (T := fun x => y.heap.size ≤ x) (fun y hy => by rw [hy]; exact hg9)
          simp only [setCells, Nat.zero_add, Nat.reduceAdd] at RS GS CS9 K1 K2 K3 K4 K5
          have RS := Lib.hid RS
          have GS := Lib.hid GS
          have CS9 := Lib.hid CS9
          clear CH hI o4
          simp [puts, dsts, Act.put, e12, e40]
          clear R4
          go_wp2_with fail
          refine ⟨rfl, ⟨.bool false, ⟨g9, e12, hg9, F4, RS.out, l4⟩, GS.out⟩, CS9.out, ?_⟩
          simp [keepsC, dstAt]
          exact ⟨K3.out _, K4.out _, K5.out _, isV_w, K1.out _, K1.out _, K2.out _⟩
        · intro f w4 hG hI hd
          have hg4 := gbChg (gbD (gbR y none)) hG (fun y hy => hy)
          have hz4 := hg4.size
          obtain ⟨⟨g9, e12, hg9, hs9⟩, hI⟩ := hI
          (try simp [depsC, dstAt, kAt, bindE, List.filter_cons, bd_data, bd_chain, bd_guard, bd_phase, bd_text, bd_gc] at hd)
          first | have hd := hd.1 | skip
          try simp only [isV] at hd
          simp [puts, dsts, Act.put, hd]
          clear hd
          go_wp2_with fail
          exact ⟨.bool r1, rfl, ⟨g9, e12, rfl, hg9, hs9⟩, hI⟩
      intro f y hI hd
      simp only [puts, dsts, Act.put, List.filterMap_cons, List.filterMap_nil, List.setIfInBounds_toArray, List.set_cons_zero, List.set_cons_succ]
      obtain ⟨⟨gh, e12a, e13a, hgh, Fh, hS, hl⟩, hg3⟩ := hI
      have e12 : f 20 = .pointer (some ⟨gh, 0, none⟩) := e12a
      have e13 : f 21 = .bool r1 := e13a
      rw [e12, e13]
      clear hd e12 e13 e12a e13a
      have houth := hS.out
      obtain ⟨Ah, Bh, Ch, Dh, Eh, ah, bh, ch, dh, eh, hBB, _⟩ := hS.eng
      have hAA := hS.is (us := [.int .i64 r0.k.p, .slice Ah r0.k.al.length ah, .int .i64 r0.c.p, .slice Bh r0.c.st.length bh, .slice Ch r0.c.outs.length ch, .slice Dh r0.vs.length dh, .slice Eh r0.op.length eh, .int .i64 r0.rd, .bool r0.bad]) hBB
      have hlth := hBB.lt
      try simp at hl
      have Ohr0 := Lib.hid hAA
      have Lhr0 := Lib.hid hl
      have Uhr0 := Lib.hid (AggO.lt hAA)
      have Ch := Lib.hid hBB
      clear hS hBB hAA hl kB0a kB0b kB1a kB1b kB1c kBTa kBTb
      have E := Lib.hid (Blk.grow B0.out hg3)
      clear B0
      have B0 := E
      clear E
      have E := Lib.hid (Blk.grow B1.out hg3)
      clear B1
      have B1 := E
      clear E
      have E := Lib.hid (Blk.grow BT.out hg3)
      clear BT
      have BT := E
      clear E
      have E := Lib.hid (Blk.grow Cw.out hg3)
      clear Cw
      have Cw := E
      clear E
      have E := Lib.hid (Blk.grow X0.out hg3)
      clear X0
      have X0 := E
      clear E
      have E := Lib.hid (Blk.grow X1.out hg3)
      clear X1
      have X1 := E
      clear E
      have E := Lib.hid (Blk.grow Cg.out hg3)
      clear Cg
      have Cg := E
      clear E
      have E := Lib.hid (AggO.grow Owr0.out hg3)
      clear Owr0
      have Owr0 := E
      clear E
      have E := Lib.hid (AggO.grow Ogr0.out hg3)
      clear Ogr0
      have Ogr0 := E
      clear E
      have z21 := World.grownBy.size hg3
      try simp at z21
      have E := Lib.hid (gbT G.out hg3)
      clear G
      have G := E
      clear E
      clear hg3
      have k_B0_0 := B0.out.cell 0
      have k_B0_1 := B0.out.cell 1
      have k_B1_0 := B1.out.cell 0
      have k_B1_1 := B1.out.cell 1
      have k_B1_2 := B1.out.cell 2
      have k_BT_0 := BT.out.cell 0
      have k_BT_1 := BT.out.cell 1
      have k_Cw_0 := Cw.out.cell 0
      have k_Cw_1 := Cw.out.cell 1
      have k_Cw_2 := Cw.out.cell 2
      have k_Cw_3 := Cw.out.cell 3
      have k_Cw_4 := Cw.out.cell 4
      have k_Cw_5 := Cw.out.cell 5
      have k_Cw_6 := Cw.out.cell 6
      have k_Cw_7 := Cw.out.cell 7
      have k_Cw_8 := Cw.out.cell 8
      have k_X0_0 := X0.out.cell 0
      have k_X0_1 := X0.out.cell 1
      have k_X1_0 := X1.out.cell 0
      have k_X1_1 := X1.out.cell 1
      have k_X1_2 := X1.out.cell 2
      have k_Cg_0 := Cg.out.cell 0
      have k_Cg_1 := Cg.out.cell 1
      have k_Cg_2 := Cg.out.cell 2
      have k_Cg_3 := Cg.out.cell 3
      have k_Cg_4 := Cg.out.cell 4
      have k_Cg_5 := Cg.out.cell 5
      have k_Cg_6 := Cg.out.cell 6
      have k_Cg_7 := Cg.out.cell 7
      have k_Cg_8 := Cg.out.cell 8
      have k_Ch_0 := Ch.out.cell 0
      have k_Ch_1 := Ch.out.cell 1
      have k_Ch_2 := Ch.out.cell 2
      have k_Ch_3 := Ch.out.cell 3
      have k_Ch_4 := Ch.out.cell 4
      have k_Ch_5 := Ch.out.cell 5
      have k_Ch_6 := Ch.out.cell 6
      have k_Ch_7 := Ch.out.cell 7
      have k_Ch_8 := Ch.out.cell 8
      simp at k_B0_0 k_B0_1 k_B1_0 k_B1_1 k_B1_2 k_BT_0 k_BT_1 k_Cw_0 k_Cw_1 k_Cw_2 k_Cw_3 k_Cw_4 k_Cw_5 k_Cw_6 k_Cw_7 k_Cw_8 k_X0_0 k_X0_1 k_X1_0 k_X1_1 k_X1_2 k_Cg_0 k_Cg_1 k_Cg_2 k_Cg_3 k_Cg_4 k_Cg_5 k_Cg_6 k_Cg_7 k_Cg_8 k_Ch_0 k_Ch_1 k_Ch_2 k_Ch_3 k_Ch_4 k_Ch_5 k_Ch_6 k_Ch_7 k_Ch_8
      go_wp2_with fail
      clear k_B0_0 k_B0_1 k_B1_0 k_B1_1 k_B1_2 k_BT_0 k_BT_1 k_Cw_0 k_Cw_1 k_Cw_2 k_Cw_3 k_Cw_4 k_Cw_5 k_Cw_6 k_Cw_7 k_Cw_8 k_X0_0 k_X0_1 k_X1_0 k_X1_1 k_X1_2 k_Cg_0 k_Cg_1 k_Cg_2 k_Cg_3 k_Cg_4 k_Cg_5 k_Cg_6 k_Cg_7 k_Cg_8 k_Ch_0 k_Ch_1 k_Ch_2 k_Ch_3 k_Ch_4 k_Ch_5 k_Ch_6 k_Ch_7 k_Ch_8
      refine (eqEngine_p r0 _ _ _ Ohr0.out.rd Owr0.out.rd HL0.out).mono ?_
      rintro e y ⟨rfl, g⟩
      have E := Lib.hid (Blk.grow B0.out g)
      clear B0
      have B0 := E
      clear E
      have E := Lib.hid (Blk.grow B1.out g)
      clear B1
      have B1 := E
      clear E
      have E := Lib.hid (Blk.grow BT.out g)
      clear BT
      have BT := E
      clear E
      have E := Lib.hid (Blk.grow Cw.out g)
      clear Cw
      have Cw := E
      clear E
      have E := Lib.hid (Blk.grow X0.out g)
      clear X0
      have X0 := E
      clear E
      have E := Lib.hid (Blk.grow X1.out g)
      clear X1
      have X1 := E
      clear E
      have E := Lib.hid (Blk.grow Cg.out g)
      clear Cg
      have Cg := E
      clear E
      have E := Lib.hid (Blk.grow Ch.out g)
      clear Ch
      have Ch := E
      clear E
      have E := Lib.hid (AggO.grow Owr0.out g)
      clear Owr0
      have Owr0 := E
      clear E
      have E := Lib.hid (AggO.grow Ogr0.out g)
      clear Ogr0
      have Ogr0 := E
      clear E
      have E := Lib.hid (AggO.grow Ohr0.out g)
      clear Ohr0
      have Ohr0 := E
      clear E
      have z22 := World.grownBy.size g
      try simp at z22
      have E := Lib.hid (gbT G.out g)
      clear G
      have G := E
      clear E
      clear g
      have k_B0_0 := B0.out.cell 0
      have k_B0_1 := B0.out.cell 1
      have k_B1_0 := B1.out.cell 0
      have k_B1_1 := B1.out.cell 1
      have k_B1_2 := B1.out.cell 2
      have k_BT_0 := BT.out.cell 0
      have k_BT_1 := BT.out.cell 1
      have k_Cw_0 := Cw.out.cell 0
      have k_Cw_1 := Cw.out.cell 1
      have k_Cw_2 := Cw.out.cell 2
      have k_Cw_3 := Cw.out.cell 3
      have k_Cw_4 := Cw.out.cell 4
      have k_Cw_5 := Cw.out.cell 5
      have k_Cw_6 := Cw.out.cell 6
      have k_Cw_7 := Cw.out.cell 7
      have k_Cw_8 := Cw.out.cell 8
      have k_X0_0 := X0.out.cell 0
      have k_X0_1 := X0.out.cell 1
      have k_X1_0 := X1.out.cell 0
      have k_X1_1 := X1.out.cell 1
      have k_X1_2 := X1.out.cell 2
      have k_Cg_0 := Cg.out.cell 0
      have k_Cg_1 := Cg.out.cell 1
      have k_Cg_2 := Cg.out.cell 2
      have k_Cg_3 := Cg.out.cell 3
      have k_Cg_4 := Cg.out.cell 4
      have k_Cg_5 := Cg.out.cell 5
      have k_Cg_6 := Cg.out.cell 6
      have k_Cg_7 := Cg.out.cell 7
      have k_Cg_8 := Cg.out.cell 8
      have k_Ch_0 := Ch.out.cell 0
      have k_Ch_1 := Ch.out.cell 1
      have k_Ch_2 := Ch.out.cell 2
      have k_Ch_3 := Ch.out.cell 3
      have k_Ch_4 := Ch.out.cell 4
      have k_Ch_5 := Ch.out.cell 5
      have k_Ch_6 := Ch.out.cell 6
      have k_Ch_7 := Ch.out.cell 7
      have k_Ch_8 := Ch.out.cell 8
      simp at k_B0_0 k_B0_1 k_B1_0 k_B1_1 k_B1_2 k_BT_0 k_BT_1 k_Cw_0 k_Cw_1 k_Cw_2 k_Cw_3 k_Cw_4 k_Cw_5 k_Cw_6 k_Cw_7 k_Cw_8 k_X0_0 k_X0_1 k_X1_0 k_X1_1 k_X1_2 k_Cg_0 k_Cg_1 k_Cg_2 k_Cg_3 k_Cg_4 k_Cg_5 k_Cg_6 k_Cg_7 k_Cg_8 k_Ch_0 k_Ch_1 k_Ch_2 k_Ch_3 k_Ch_4 k_Ch_5 k_Ch_6 k_Ch_7 k_Ch_8
      go_wp2_with fail
      clear k_B0_0 k_B0_1 k_B1_0 k_B1_1 k_B1_2 k_BT_0 k_BT_1 k_Cw_0 k_Cw_1 k_Cw_2 k_Cw_3 k_Cw_4 k_Cw_5 k_Cw_6 k_Cw_7 k_Cw_8 k_X0_0 k_X0_1 k_X1_0 k_X1_1 k_X1_2 k_Cg_0 k_Cg_1 k_Cg_2 k_Cg_3 k_Cg_4 k_Cg_5 k_Cg_6 k_Cg_7 k_Cg_8 k_Ch_0 k_Ch_1 k_Ch_2 k_Ch_3 k_Ch_4 k_Ch_5 k_Ch_6 k_Ch_7 k_Ch_8
      refine (heldEngine_p r0 _ 1 _ Ogr0.out.rd HL0.out (by omega) (by omega)).mono ?_
      rintro e y ⟨rfl, g⟩
      have E := Lib.hid (Blk.grow B0.out g)
      clear B0
      have B0 := E
      clear E
      have E := Lib.hid (Blk.grow B1.out g)
      clear B1
      have B1 := E
      clear E
      have E := Lib.hid (Blk.grow BT.out g)
      clear BT
      have BT := E
      clear E
      have E := Lib.hid (Blk.grow Cw.out g)
      clear Cw
      have Cw := E
      clear E
      have E := Lib.hid (Blk.grow X0.out g)
      clear X0
      have X0 := E
      clear E
      have E := Lib.hid (Blk.grow X1.out g)
      clear X1
      have X1 := E
      clear E
      have E := Lib.hid (Blk.grow Cg.out g)
      clear Cg
      have Cg := E
      clear E
      have E := Lib.hid (Blk.grow Ch.out g)
      clear Ch
      have Ch := E
      clear E
      have E := Lib.hid (AggO.grow Owr0.out g)
      clear Owr0
      have Owr0 := E
      clear E
      have E := Lib.hid (AggO.grow Ogr0.out g)
      clear Ogr0
      have Ogr0 := E
      clear E
      have E := Lib.hid (AggO.grow Ohr0.out g)
      clear Ohr0
      have Ohr0 := E
      clear E
      have z23 := World.grownBy.size g
      try simp at z23
      have E := Lib.hid (gbT G.out g)
      clear G
      have G := E
      clear E
      clear g
      have khr0 : ¬ r0.cnt 1 < 0 := by omega
      have k_B0_0 := B0.out.cell 0
      have k_B0_1 := B0.out.cell 1
      have k_B1_0 := B1.out.cell 0
      have k_B1_1 := B1.out.cell 1
      have k_B1_2 := B1.out.cell 2
      have k_BT_0 := BT.out.cell 0
      have k_BT_1 := BT.out.cell 1
      have k_Cw_0 := Cw.out.cell 0
      have k_Cw_1 := Cw.out.cell 1
      have k_Cw_2 := Cw.out.cell 2
      have k_Cw_3 := Cw.out.cell 3
      have k_Cw_4 := Cw.out.cell 4
      have k_Cw_5 := Cw.out.cell 5
      have k_Cw_6 := Cw.out.cell 6
      have k_Cw_7 := Cw.out.cell 7
      have k_Cw_8 := Cw.out.cell 8
      have k_X0_0 := X0.out.cell 0
      have k_X0_1 := X0.out.cell 1
      have k_X1_0 := X1.out.cell 0
      have k_X1_1 := X1.out.cell 1
      have k_X1_2 := X1.out.cell 2
      have k_Cg_0 := Cg.out.cell 0
      have k_Cg_1 := Cg.out.cell 1
      have k_Cg_2 := Cg.out.cell 2
      have k_Cg_3 := Cg.out.cell 3
      have k_Cg_4 := Cg.out.cell 4
      have k_Cg_5 := Cg.out.cell 5
      have k_Cg_6 := Cg.out.cell 6
      have k_Cg_7 := Cg.out.cell 7
      have k_Cg_8 := Cg.out.cell 8
      have k_Ch_0 := Ch.out.cell 0
      have k_Ch_1 := Ch.out.cell 1
      have k_Ch_2 := Ch.out.cell 2
      have k_Ch_3 := Ch.out.cell 3
      have k_Ch_4 := Ch.out.cell 4
      have k_Ch_5 := Ch.out.cell 5
      have k_Ch_6 := Ch.out.cell 6
      have k_Ch_7 := Ch.out.cell 7
      have k_Ch_8 := Ch.out.cell 8
      simp at k_B0_0 k_B0_1 k_B1_0 k_B1_1 k_B1_2 k_BT_0 k_BT_1 k_Cw_0 k_Cw_1 k_Cw_2 k_Cw_3 k_Cw_4 k_Cw_5 k_Cw_6 k_Cw_7 k_Cw_8 k_X0_0 k_X0_1 k_X1_0 k_X1_1 k_X1_2 k_Cg_0 k_Cg_1 k_Cg_2 k_Cg_3 k_Cg_4 k_Cg_5 k_Cg_6 k_Cg_7 k_Cg_8 k_Ch_0 k_Ch_1 k_Ch_2 k_Ch_3 k_Ch_4 k_Ch_5 k_Ch_6 k_Ch_7 k_Ch_8
      go_wp2_with fail
      clear k_B0_0 k_B0_1 k_B1_0 k_B1_1 k_B1_2 k_BT_0 k_BT_1 k_Cw_0 k_Cw_1 k_Cw_2 k_Cw_3 k_Cw_4 k_Cw_5 k_Cw_6 k_Cw_7 k_Cw_8 k_X0_0 k_X0_1 k_X1_0 k_X1_1 k_X1_2 k_Cg_0 k_Cg_1 k_Cg_2 k_Cg_3 k_Cg_4 k_Cg_5 k_Cg_6 k_Cg_7 k_Cg_8 k_Ch_0 k_Ch_1 k_Ch_2 k_Ch_3 k_Ch_4 k_Ch_5 k_Ch_6 k_Ch_7 k_Ch_8
      clear khr0
      go_ret
      exact ⟨rfl, G.out⟩
theorem csteps_nil (w : World) : (csteps []).own w [] (.slice none 0 0) := ⟨0, [], [], rfl, World.ownsRow_nil w 0 _ 3, OwnAll.nil w, rfl, by simp⟩
def eng0M : EM := ⟨⟨0, []⟩, ⟨0, [], []⟩, [], [], 0, false⟩
theorem eng0_own (w : World) : AggO w (cengine eng0M) [] (.agg #[.int .i64 0, .slice none 0 0, .int .i64 0, .slice none 0 0, .slice none 0 0, .slice none 0 0, .slice none 0 0, .int .i64 0, .bool false]) :=
  cengine_omk (m := eng0M) (cints_nil w) (csteps_nil w) (cints_nil w) (cauths_nil w) (cints_nil w) (by simp) (by simp) (by simp) (by simp) (by simp) (by simp) (by simp) (by simp) (by simp) (by simp)
noncomputable def newR (k : KM) (c : AM) (es : List Int) (s a : Int) : EM := if newB k c es s a = true then engNew k c k.p.toNat s.toNat es else eng0M
theorem okV_sz {k : KM} {v : AuM} (h : okV k v = true) : v.sz ≤ 10 := by
  unfold okV at h
  have e : v.sz = v.sh.length + v.mc.length := rfl
  cases hz : zeroA v
  · rw [hz, Bool.false_or] at h
    have := form_is h
    omega
  · unfold zeroA at hz
    simp at hz
    rw [e, hz.1, hz.2]
    decide
theorem auS_bd {xs : List AuM} (h : ∀ x ∈ xs, x.sz ≤ 10) : ∀ n, n ≤ xs.length → auS xs n ≤ 10 * n
  | 0, _ => by rw [auS_zero]; omega
  | n + 1, hn => by
    have h1 := auS_bd h n (by omega)
    have h2 := auS_succ xs n xs[n] (List.getElem?_eq_getElem (by omega))
    have h3 := h _ (List.getElem_mem (show n < xs.length by omega))
    omega
theorem newR_prt {k : KM} {c : AM} {es : List Int} {s a : Int} (hk : k.sz ≤ 1048576) (hc : c.sz ≤ 1048576) : (newR k c es s a).prt := by
  unfold newR
  split
  · rename_i hb
    obtain ⟨h1, hok, hpp, hl, hel, htp, _⟩ := newB_is hb
    obtain ⟨p2, _⟩ := field_range (keys_is h1).1
    have hP : k.p = k.p.toNat := by omega
    have ho : ∀ x ∈ (engNew k c k.p.toNat s.toNat es).vs, x.sz ≤ 10 := fun x hx => okV_sz (adds_okV (initL_okV h1 hP (by rw [hpp]; exact hel)) _ x hx)
    have hn : (engNew k c k.p.toNat s.toNat es).vs.length = c.st.length := by
      show (addsTo _ _ _ _).length = _
      rw [addsTo_len, initL_len]
    have h4 := auS_bd ho _ (Nat.le_refl _)
    have h5 := hok.few
    refine ⟨hk, hc, ?_, Nat.zero_le _⟩
    unfold szA
    omega
  · exact ⟨by decide, by decide, by decide, by decide⟩
theorem specEngineNew_k (k : KM) (c : AM) (es : List Int) (s a : Int) (wk : kwf k) (wc : amwf c) (hn : es.length ≤ 1048576) (ws : i64w a) (v0 v1 v2 : Value) (w : World) (h0 : AggR w (ckeys k) v0) (h1 : AggR w (carith c) v1) (h2 : (cints es).rd w v2) :
    Calls Try.prog 20 #[v0, v1, v2, .agg #[.int .i64 s, .int .i64 a]] w fun e w' => ∃ V F, e = .returned (.tuple #[V, .bool (newB k c es s a)]) ∧ AggO w' (cengine (newR k c es s a)) F V ∧ (∀ g ∈ F, w.heap.size ≤ g) ∧ w.grownBy w' none := by
  obtain ⟨A, cc, rfl, _, _, hI⟩ := cints_rd h2
  cases hb : newB k c es s a
  · refine (specEngineNew_no k c A es.length cc es s a v0 v1 w h0 h1 hI wk wc hn ws hb).mono ?_
    rintro e w' ⟨rfl, g⟩
    refine ⟨_, [], rfl, ?_, by simp, g⟩
    rw [show newR k c es s a = eng0M by unfold newR; rw [if_neg (by rw [hb]; decide)]]
    exact eng0_own w'
  · obtain ⟨hk, hok, hpp, hl, hel, htp, ha9⟩ := newB_is hb
    obtain ⟨S, A', hS, hA, hs1, ha1⟩ := tape_is htp
    subst hS; subst hA
    obtain ⟨p2, _⟩ := field_range (keys_is hk).1
    have hP : k.p = k.p.toNat := by omega
    have hR : newR k c es (S : Int) (A' : Int) = engNew k c k.p.toNat S es := by unfold newR; rw [if_pos hb]; rfl
    rw [hR]
    have hv : Value.slice A es.length cc = .slice A 60 cc := by rw [hl]
    rw [hl] at hI
    rw [hv]
    refine (specEngineNew_yes k c k.p.toNat S A' A cc es v0 v1 w h0 h1 hI wk wc hP hb).mono ?_
    rintro e w' ⟨v, rfl, ⟨F, h5, h6⟩, g⟩
    exact ⟨v, F, rfl, h5, h6, g⟩
theorem implEngineNew_k (k : KM) (c : AM) (es : List Int) (s a : Int) (wk : kwf k) (wc : amwf c) (hn : es.length ≤ 1048576) (ws : i64w a) (v0 v1 v2 : Value) (w : World) (h0 : AggR w (ckeys k) v0) (h1 : AggR w (carith c) v1) (h2 : (cints es).rd w v2) :
    Calls Try.prog 10 #[v0, v1, v2, .agg #[.int .i64 s, .int .i64 a]] w fun e w' => ∃ V F, e = .returned (.tuple #[V, .bool (newB k c es s a)]) ∧ AggO w' (cengine (newR k c es s a)) F V ∧ (∀ g ∈ F, w.heap.size ≤ g) ∧ w.grownBy w' none := by
  obtain ⟨A, cc, rfl, _, _, hI⟩ := cints_rd h2
  cases hb : newB k c es s a
  · refine (implEngineNew_no k c A es.length cc es s a v0 v1 w h0 h1 hI wk wc hn ws hb).mono ?_
    rintro e w' ⟨rfl, g⟩
    refine ⟨_, [], rfl, ?_, by simp, g⟩
    rw [show newR k c es s a = eng0M by unfold newR; rw [if_neg (by rw [hb]; decide)]]
    exact eng0_own w'
  · obtain ⟨hk, hok, hpp, hl, hel, htp, ha9⟩ := newB_is hb
    obtain ⟨S, A', hS, hA, hs1, ha1⟩ := tape_is htp
    subst hS; subst hA
    obtain ⟨p2, _⟩ := field_range (keys_is hk).1
    have hP : k.p = k.p.toNat := by omega
    have hR : newR k c es (S : Int) (A' : Int) = engNew k c k.p.toNat S es := by unfold newR; rw [if_pos hb]; rfl
    rw [hR]
    have hv : Value.slice A es.length cc = .slice A 60 cc := by rw [hl]
    rw [hl] at hI
    rw [hv]
    refine (implEngineNew_yes k c k.p.toNat S A' A cc es v0 v1 w h0 h1 hI wk wc hP hb).mono ?_
    rintro e w' ⟨v, rfl, ⟨F, h5, h6⟩, g⟩
    exact ⟨v, F, rfl, h5, h6, g⟩
theorem FnExactEngineNew.walk (w : World) (kk : KM) (v0 : Value) (h0 : AggR w (ckeys kk) v0) (wf0 : kk.wf) (cc : AM) (v1 : Value) (h1 : AggR w (carith cc) v1) (wf1 : cc.wf) (A : Option Addr) (n c : Nat) (es : List Int) (hes : IntsK .i64 w A n es) (hm : n ≤ c) (hc : c ≤ maxLen) (ts : Int) (wts : (Lit.int .i64 ts).wf = true) (ta : Int) (wta : (Lit.int .i64 ta).wf = true) :
    Calls Try.prog 7 #[v0, v1, .slice A n c, .agg #[.int .i64 ts, .int .i64 ta]] w fun e w' => e = .returned (.bool true) ∧ w.grownBy w' none := by
  have hl := Ints.len hes.ints
  have hA := wf_i64 wta
  by_cases hb : n ≤ 1048576
  · by_cases hz0 : kk.sz ≤ 1048576
    · by_cases hz1 : cc.sz ≤ 1048576 - kk.sz
      · have wk : kwf kk := ⟨wf0.1, hz0⟩
        have hcz : cc.sz = cc.st.length + cc.outs.length := rfl
        have wc : amwf cc := ⟨wf1, by omega, by omega⟩
        have hn : es.length ≤ 1048576 := by omega
        have hh := FnExactEngineNew.core kk cc es ts ta (newR kk cc es ts ta) (newB kk cc es ts ta) w v0 v1 _ h0 h1 (cints_mk hes.ints hm hc) hz0 hz1 hn (newR_prt hz0 (by omega)) (fun w v0 v1 v2 q0 q1 q2 => specEngineNew_k kk cc es ts ta wk wc hn hA v0 v1 v2 w q0 q1 q2) (fun w v0 v1 v2 q0 q1 q2 => implEngineNew_k kk cc es ts ta wk wc hn hA v0 v1 v2 w q0 q1 q2)
        exact hh
      · have HZ0 := Lib.hid (szO_yes hz0)
        have HZ1 := Lib.hid (szO_no (Nat.lt_of_not_le hz1))
        have HA0 := Lib.hid h0
        have HA1 := Lib.hid h1
        obtain ⟨p0, rfl, _⟩ := ckeys_open h0
        obtain ⟨p1, p2, rfl, _, _⟩ := carith_open h1
        have hb' : ¬ (1048576 : Int) < (n : Int) := by omega
        clear h0 h1 hes hl
        go_enter Try.func7, Try.ntmps7
        obtain ⟨y, hyy⟩ : ∃ q : World, ((w.alloc (.cells #[.int .i64 kk.p, p0] 58)).alloc (.cells #[.int .i64 cc.p, p1, p2] 61)).alloc (.cells #[.int .i64 ts, .int .i64 ta] 73) = q := ⟨_, rfl⟩
        have G : Hid (w.grownBy y none) := by rw [← hyy]; exact gbA (gbA (gbA (gbR _ _) _) _) _
        have B0 : Hid (Blk y w.heap.size 58 #[.int .i64 kk.p, p0]) := by rw [← hyy]; exact ((Blk.new w _ _).grow (gbA (gbR _ _) _)).grow (gbA (gbR _ _) _)
        have B1 : Hid (Blk y (w.heap.size + 1) 61 #[.int .i64 cc.p, p1, p2]) := by rw [← hyy]; exact (Blk.new' _ _ _ _ (by simp)).grow (gbA (gbR _ _) _)
        have k0 := B0.out.cell 0
        have k1 := B0.out.cell 1
        simp at k0 k1
        go_wp2_with fail
        clear k0 k1 hyy
        refine (szKeys_k kk _ 1048576 _ (AggR.grow HA0.out G.out) (by omega)).mono ?_
        rintro e y2 ⟨rfl, g⟩
        rw [HZ0.out]
        have G2 := Lib.hid (gbT G.out g)
        have k0 := (B1.out.grow g).cell 0
        have k1 := (B1.out.grow g).cell 1
        have k2 := (B1.out.grow g).cell 2
        simp at k0 k1 k2
        clear g
        go_wp2_with fail
        clear k0 k1 k2
        refine (szArith_k cc _ (1048576 - kk.sz) _ (AggR.grow HA1.out G2.out) (by omega)).mono ?_
        rintro e y3 ⟨rfl, g⟩
        rw [HZ1.out]
        have G3 := Lib.hid (gbT G2.out g)
        clear g
        go_wp2_with fail
        go_ret
        exact ⟨rfl, G3.out⟩
    · have HZ0 := Lib.hid (szO_no (Nat.lt_of_not_le hz0))
      have HA0 := Lib.hid h0
      obtain ⟨p0, rfl, _⟩ := ckeys_open h0
      obtain ⟨p1, p2, rfl, _, _⟩ := carith_open h1
      have hb' : ¬ (1048576 : Int) < (n : Int) := by omega
      clear h0 h1 hes hl hz0
      go_enter Try.func7, Try.ntmps7
      obtain ⟨y, hyy⟩ : ∃ q : World, ((w.alloc (.cells #[.int .i64 kk.p, p0] 58)).alloc (.cells #[.int .i64 cc.p, p1, p2] 61)).alloc (.cells #[.int .i64 ts, .int .i64 ta] 73) = q := ⟨_, rfl⟩
      have G : Hid (w.grownBy y none) := by rw [← hyy]; exact gbA (gbA (gbA (gbR _ _) _) _) _
      have B0 : Hid (Blk y w.heap.size 58 #[.int .i64 kk.p, p0]) := by rw [← hyy]; exact ((Blk.new w _ _).grow (gbA (gbR _ _) _)).grow (gbA (gbR _ _) _)
      have k0 := B0.out.cell 0
      have k1 := B0.out.cell 1
      simp at k0 k1
      go_wp2_with fail
      clear k0 k1 hyy
      refine (szKeys_k kk _ 1048576 _ (AggR.grow HA0.out G.out) (by omega)).mono ?_
      rintro e y2 ⟨rfl, g⟩
      rw [HZ0.out]
      have G2 := Lib.hid (gbT G.out g)
      clear g
      go_wp2_with fail
      go_ret
      exact ⟨rfl, G2.out⟩
  · obtain ⟨p0, rfl, _⟩ := ckeys_open h0
    obtain ⟨p1, p2, rfl, _, _⟩ := carith_open h1
    have hb' : (1048576 : Int) < (n : Int) := by omega
    clear h0 h1 hes hl
    go_enter Try.func7, Try.ntmps7
    go_wp2_with fail
    go_ret
    exact ⟨rfl, gbA (gbA (gbA (gbR _ _) _) _) _⟩
end Go.Proofs.Ythaadgdeadbhkaa
