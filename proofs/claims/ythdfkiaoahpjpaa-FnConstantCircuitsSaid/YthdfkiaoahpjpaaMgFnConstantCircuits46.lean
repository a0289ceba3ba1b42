/-
  FnConstantCircuits' walk.
-/
import Derived.Test.YthdfkiaoahpjpaaMgFnConstantCircuits43
import Derived.Test.YthdfkiaoahpjpaaMgFnConstantCircuits45
namespace Go.Proofs.Ythdfkiaoahpjpaa
open Go.RowKit
set_option linter.unusedVariables false
set_option linter.unusedSimpArgs false
def wcT (lo : Nat) (p : List Int × CM) (v : Value) (w : World) : Prop := ∃ A n c B n' c' C cc, v = .tuple #[.agg #[.slice A n c, .slice B n' c'], .slice C 4 cc] ∧ aggF lo (ccircuit p.2) (.agg #[.slice A n c, .slice B n' c']) w ∧ ownF lo (cints p.1) (.slice C 4 cc) w
def wcA (lo : Nat) (p : List Int × CM) (v : Value) (w : World) : Prop := ∃ A n c B n' c', v = .agg #[.slice A n c, .slice B n' c'] ∧ aggF lo (ccircuit p.2) (.agg #[.slice A n c, .slice B n' c']) w
theorem wcT.grow {lo : Nat} {p : List Int × CM} {v : Value} {w w' : World} (h : wcT lo p v w) (k : w.grownBy w' none) : wcT lo p v w' := by
  obtain ⟨A, n, c, B, n', c', C, cc, h1, h2, h3⟩ := h
  exact ⟨A, n, c, B, n', c', C, cc, h1, h2.grow k, h3.grow k⟩
theorem wcA.grow {lo : Nat} {p : List Int × CM} {v : Value} {w w' : World} (h : wcA lo p v w) (k : w.grownBy w' none) : wcA lo p v w' := by
  obtain ⟨A, n, c, B, n', c', h1, h2⟩ := h
  exact ⟨A, n, c, B, n', c', h1, h2.grow k⟩
theorem slF.grow {lo n : Nat} {xs : List Int} {v : Value} {w w' : World} (h : slF lo n xs v w) (k : w.grownBy w' none) : slF lo n xs v w' := slF_st _ _ _ h k
theorem aggF.keepS {lo : Nat} {S : Nat → Prop} {cs : List CS} {v : Value} {w w' : World} (h : aggF lo cs v w) (k : Chg S w w') (hS : ∀ y, S y → y < lo) : aggF lo cs v w' := by
  obtain ⟨F, h1, h2⟩ := h
  exact ⟨F, h1.chg k (fun x hx e => by have := h2 x hx; have := hS x e; omega), h2⟩
theorem ownF.keepS {lo : Nat} {S : Nat → Prop} {c : CS} {v : Value} {w w' : World} (h : ownF lo c v w) (k : Chg S w w') (hS : ∀ y, S y → y < lo) : ownF lo c v w' := h.chgS k fun y hy => .inl (hS y hy)
theorem wcT.keep {lo : Nat} {S : Nat → Prop} {p : List Int × CM} {v : Value} {w w' : World} (h : wcT lo p v w) (k : Chg S w w') (hS : ∀ y, S y → y < lo) : wcT lo p v w' := by
  obtain ⟨A, n, c, B, n', c', C, cc, h1, h2, h3⟩ := h
  exact ⟨A, n, c, B, n', c', C, cc, h1, h2.keepS k hS, h3.keepS k hS⟩
theorem wcA.keep {lo : Nat} {S : Nat → Prop} {p : List Int × CM} {v : Value} {w w' : World} (h : wcA lo p v w) (k : Chg S w w') (hS : ∀ y, S y → y < lo) : wcA lo p v w' := by
  obtain ⟨A, n, c, B, n', c', h1, h2⟩ := h
  exact ⟨A, n, c, B, n', c', h1, h2.keepS k hS⟩
theorem slF.keep {lo n : Nat} {S : Nat → Prop} {xs : List Int} {v : Value} {w w' : World} (h : slF lo n xs v w) (k : Chg S w w') (hS : ∀ y, S y → y < lo) : slF lo n xs v w' := by
  obtain ⟨A, c, h1, h2⟩ := h
  exact ⟨A, c, h1, h2.keepS k hS⟩
theorem ownF.keepT {Ts : List TypeId} {lo g : Nat} {c : CS} {v : Value} {T : TypeId} {us : Array Value} {w w' : World} (h : ownF lo c v w) (ht : tyd Ts c) (hT : T ∉ Ts) (R : Blk w g T us) (k : Chg (fun y => y = g) w w') : ownF lo c v w' := by
  obtain ⟨F, h1, h2⟩ := h
  exact ⟨F, own_chgK _ h1 k (fun x hx e => own_ty ht h1 R hT (by rw [← e]; exact hx)), h2⟩
set_option maxHeartbeats 1500000 in
set_option maxRecDepth 100000 in
theorem FnConstantCircuits.walk (w : World) (A : Option Addr) (n c : Nat) (zs : List Int) (hz : IntsK .u8 w A n zs) (hm : n ≤ maxLen) :
    Calls Try.prog 5 #[.slice A n c] w fun e w' => e = .returned (.bool true) ∧ w.grownBy w' none := by
  unfold maxLen at hm
  by_cases hbig : 1048576 < n
  · have hd : decide (1048576 < n) = true := by simp; omega
    go_enter Try.func5, Try.ntmps5
    go_wp2_with fail
    refine (big_c _ A n c (by omega)).mono ?_
    rintro e w1 ⟨rfl, rfl⟩
    go_wp2_with fail
    go_ret
    exact ⟨rfl, gbR _ _⟩
  · have hd : decide (1048576 < n) = false := by simp; omega
    have H := Lib.hid (bytesIn hz (by omega))
    clear hz
    go_enter Try.func5, Try.ntmps5
    go_wp2_with fail
    refine (big_c _ A n c (by omega)).mono ?_
    rintro e w1 ⟨rfl, rfl⟩
    rw [hd]
    go_wp2_with fail
    refine (DrawPlaces_c _ A n c zs H.out).mono ?_
    rintro e w1 ⟨v, qs, rfl, hown, hq, hg⟩
    obtain ⟨B, d, rfl, _, _⟩ := own_form hown
    have HI := Lib.hid (show Ints w1 B 12 qs from Rd.ofOwn hown)
    obtain ⟨b9, o9, rfl, hb, hc⟩ := HI.out.at_ (by omega)
    have c0 := hc 0 (by omega)
    rw [Nat.add_zero] at c0
    have c1 := hc 1 (by omega)
    have q0 := hq.at_ 0 (by omega)
    have q1 := hq.at_ 1 (by omega)
    have G := Lib.hid hg
    clear hown hc hg hq HI
    generalize qs.getD 0 0 = x at *
    generalize qs.getD 1 0 = y at *
    obtain ⟨q00, q01⟩ := q0
    obtain ⟨q10, q11⟩ := q1
    obtain ⟨a, hA⟩ : ∃ a : Nat, x % 16 = (a : Int) := ⟨(x % 16).toNat, by omega⟩
    obtain ⟨b, hB⟩ : ∃ a : Nat, y % 16 = (a : Int) := ⟨(y % 16).toNat, by omega⟩
    have ha : a < 16 := by omega
    have hb2 : b < 16 := by omega
    have CF := Lib.hid (con_is ha hb2)
    have C0 := Lib.hid c0
    have C1 := Lib.hid c1
    have HB := Lib.hid hB
    have HA := Lib.hid hA
    have X0 := Lib.hid q00
    have XB1 := Lib.hid q01
    have Y0 := Lib.hid q10
    have YB1 := Lib.hid q11
    go_wp2_with fail
    rw [hA]
    clear hA hB c0 c1 q00 q01 q10 q11 hbig hd hm H
    refine (specWordConst_c m0 a _ w1 (circ0 _) (okS_is (by decide)) (by omega)).mono ?_
    rintro e w2 ⟨V1, U1, rfl, v1, o1, g1⟩
    change aggF _ (ccircuit (cA a).2) _ _ at v1
    change ownF _ (cints (cA a).1) _ _ at o1
    obtain ⟨X1, n1, c1, X2, n2, c2, rfl⟩ := v1.form
    obtain ⟨Ax, cx9, rfl, o1⟩ := o1.row
    have lx : (cA a).1.length = 4 := (constTo_len m0 a 4).1
    rw [lx] at o1 ⊢
    obtain ⟨w3, hw3⟩ : ∃ q : World, w2.alloc (.cells #[.slice X1 n1 c1, .slice X2 n2 c2] 28) = q := ⟨_, rfl⟩
    have g3 : w2.grownBy w3 none := by rw [← hw3]; exact gbA (gbR _ _) _
    have R : Hid (Blk w3 w2.heap.size 28 #[.slice X1 n1 c1, .slice X2 n2 c2]) := by rw [← hw3]; exact Lib.hid (Blk.new w2 _ _)
    have V := Lib.hid (v1.grow g3)
    have OX := Lib.hid (o1.grow g3)
    have zb : w.heap.size ≤ w2.heap.size := (gbT G.out g1).size
    have G9 := Lib.hid (gbT G.out (gbT g1 g3))
    have D0 := Lib.hid (gbk (gbT g1 g3) C0.out)
    have D1 := Lib.hid (gbk (gbT g1 g3) C1.out)
    have zb9 : b9 < w2.heap.size := by have := g1.size; omega
    have HW3 := Lib.hid hw3
    clear v1 o1 g1 g3 G lx hw3 C0 C1 hb
    go_wp2_with fail
    rw [HW3.out]
    clear HW3
    have k0 := Lib.hid (R.out.cell 0)
    have k1 := Lib.hid (R.out.cell 1)
    simp only [List.getElem?_toArray, List.getElem?_cons_succ, List.getElem?_cons_zero] at k0 k1
    obtain ⟨g4, hg4'⟩ : ∃ q, w2.heap.size = q := ⟨_, rfl⟩
    rw [hg4'] at R k0 k1 zb zb9 ⊢
    have hg3 : g4 < w3.heap.size := by have := R.out.lt; exact this
    clear hg4'
    refine region_reg6 [onT 27 (isV (.agg #[.slice X1 n1 c1, .slice X2 n2 c2])),
       onT 28 (isV (.slice (some ⟨b9, o9, none⟩) 12 d)),
       onT 29 (isV (.pointer (some ⟨b9, o9 + 1, none⟩))),
       onT 30 (isV (.int .i64 y)),
       onT 31 (isV (.int .i64 b)),
       ⟨[32], fun l w' => wcT w3.heap.size (cB a b) (l.getD 0 undef) w'⟩,
       ⟨[26], fun l w' => wcT w3.heap.size (cB a b) (l.getD 0 undef) w'⟩,
       ⟨[33], fun l w' => wcA w3.heap.size (cB a b) (l.getD 0 undef) w'⟩,
       ⟨[34], fun l w' => slF w3.heap.size 4 (cB a b).1 (l.getD 0 undef) w'⟩,
       ⟨[], fun l w' => ∃ u0 u1, Blk w' g4 28 #[u0, u1] ∧ aggF w3.heap.size (ccircuit (cB a b).2) (.agg #[u0, u1]) w'⟩,
       ⟨[6], fun l w' => slF w3.heap.size 4 (cB a b).1 (l.getD 0 undef) w'⟩] [(9, g4)] (by kernel_rfl) (by kernel_rfl) (by kernel_rfl) ?_ ?_ ?_
    · exact stF_cons (stableF_on (isV_st _)) (stF_cons (stableF_on (isV_st _)) (stF_cons (stableF_on (isV_st _)) (stF_cons (stableF_on (isV_st _)) (stF_cons (stableF_on (isV_st _)) (stF_cons (chain_st fun l w1 w2 h hg => wcT.grow h hg) (stF_cons (chain_st fun l w1 w2 h hg => wcT.grow h hg) (stF_cons (chain_st fun l w1 w2 h hg => wcA.grow h hg) (stF_cons (chain_st fun l w1 w2 h hg => slF.grow h hg) (stF_cons (chain_st fun l w1 w2 ⟨u0, u1, h1, h2⟩ hg => ⟨u0, u1, h1.grow hg, h2.grow hg⟩) (stF_cons (chain_st fun l w1 w2 h hg => slF.grow h hg) stF_nil))))))))))
    · simp only [hops6, and_true]
      refine ⟨?_, ?_, ?_, ?_, ?_, ?_, ?_, ?_, ?_, ?_, ?_⟩
      · intro f w4 hG hpre hold hd
        have hgd := gb6 hG hpre (by kernel_rfl)
        have hg4 := gbT (gbD (gbR w3 none)) hgd
        have hz4 := hg4.size
        have k0 := gbk hg4 (k0.out)
        have k1 := gbk hg4 (k1.out)
        (try simp [depsF, bindE, List.filter_cons, bd_data, bd_chain, bd_guard, bd_phase, bd_text, bd_gc, fAt, onT_at, isV] at hd)
        first | simp [puts, dsts, Act.put, hd] | simp [puts, dsts, Act.put]
        try clear hd
        go_wp2_with fail
        exact ⟨_, rfl, by simp [fAt, onT_at, upd_some, isV], Or.inl (gbR _ _)⟩
      · intro f w4 hG hpre hold hd
        have hgd := gb6 hG hpre (by kernel_rfl)
        have hg4 := gbT (gbD (gbR w3 none)) hgd
        have hz4 := hg4.size
        (try simp [depsF, bindE, List.filter_cons, bd_data, bd_chain, bd_guard, bd_phase, bd_text, bd_gc, fAt, onT_at, isV] at hd)
        first | simp [puts, dsts, Act.put, hd] | simp [puts, dsts, Act.put]
        try clear hd
        go_wp2_with fail
        exact ⟨_, rfl, by simp [fAt, onT_at, upd_some, isV], Or.inl (gbR _ _)⟩
      · intro f w4 hG hpre hold hd
        have hgd := gb6 hG hpre (by kernel_rfl)
        have hg4 := gbT (gbD (gbR w3 none)) hgd
        have hz4 := hg4.size
        (try simp [depsF, bindE, List.filter_cons, bd_data, bd_chain, bd_guard, bd_phase, bd_text, bd_gc, fAt, onT_at, isV] at hd)
        first | simp [puts, dsts, Act.put, hd] | simp [puts, dsts, Act.put]
        try clear hd
        go_wp2_with fail
        exact ⟨_, rfl, by simp [fAt, onT_at, upd_some, isV], Or.inl (gbR _ _)⟩
      · intro f w4 hG hpre hold hd
        have hgd := gb6 hG hpre (by kernel_rfl)
        have hg4 := gbT (gbD (gbR w3 none)) hgd
        have hz4 := hg4.size
        have k2 := gbk hg4 (D1.out)
        (try simp [depsF, bindE, List.filter_cons, bd_data, bd_chain, bd_guard, bd_phase, bd_text, bd_gc, fAt, onT_at, isV] at hd)
        first | simp [puts, dsts, Act.put, hd] | simp [puts, dsts, Act.put]
        try clear hd
        go_wp2_with fail
        exact ⟨_, rfl, by simp [fAt, onT_at, upd_some, isV], Or.inl (gbR _ _)⟩
      · intro f w4 hG hpre hold hd
        have hgd := gb6 hG hpre (by kernel_rfl)
        have hg4 := gbT (gbD (gbR w3 none)) hgd
        have hz4 := hg4.size
        (try simp [depsF, bindE, List.filter_cons, bd_data, bd_chain, bd_guard, bd_phase, bd_text, bd_gc, fAt, onT_at, isV] at hd)
        first | simp [puts, dsts, Act.put, hd] | simp [puts, dsts, Act.put]
        try clear hd
        have y0 := Y0.out
        have y1 := YB1.out
        go_wp2_with fail
        rw [HB.out]
        exact ⟨_, rfl, by simp [fAt, onT_at, upd_some, isV], Or.inl (gbR _ _)⟩
      · intro f w4 hG hpre hold hd
        have hgd := gb6 hG hpre (by kernel_rfl)
        have hg4 := gbT (gbD (gbR w3 none)) hgd
        have hz4 := hg4.size
        (try simp [depsF, bindE, List.filter_cons, bd_data, bd_chain, bd_guard, bd_phase, bd_text, bd_gc, fAt, onT_at, isV] at hd)
        simp [puts, dsts, Act.put, hd]
        clear hd
        go_wp2_with fail
        refine (specWordConst_c (cA a).2 b _ w4 (V.out.grow hg4).r CF.out.okA (by omega)).mono ?_
        rintro e w6 ⟨V6, U6, rfl, v6, o6, g6⟩
        obtain ⟨X6, n6, c6, Y6, m6, d6, rfl⟩ := v6.form
        obtain ⟨A6, e6, rfl, o6⟩ := o6.row
        have l6 : (constTo (cA a).2 b 4).1.length = 4 := (constTo_len _ b 4).1
        rw [l6] at o6 ⊢
        have V6 := Lib.hid (v6.lo (show w3.heap.size ≤ w4.heap.size from hz4))
        have O6 := Lib.hid (o6.lo (show w3.heap.size ≤ w4.heap.size from hz4))
        have G6 := Lib.hid g6
        clear v6 o6 g6 l6
        go_wp2_with fail
        exact ⟨_, rfl, ⟨_, _, _, _, _, _, _, _, rfl, V6.out, O6.out⟩, Or.inl G6.out⟩
      · intro f w4 hG hpre hold hd
        have hgd := gb6 hG hpre (by kernel_rfl)
        have hg4 := gbT (gbD (gbR w3 none)) hgd
        have hz4 := hg4.size
        (try simp [depsF, bindE, List.filter_cons, bd_data, bd_chain, bd_guard, bd_phase, bd_text, bd_gc, fAt, onT_at, isV] at hd)
        obtain ⟨X6, n6, c6, Y6, m6, d6, A6, e6, e32, v6, o6⟩ := hd
        have e32 : f 32 = _ := e32
        simp [puts, dsts, Act.put, e32]
        go_wp2_with fail
        exact ⟨_, rfl, ⟨_, _, _, _, _, _, _, _, rfl, v6, o6⟩, Or.inl (gbR _ _)⟩
      · intro f w4 hG hpre hold hd
        have hgd := gb6 hG hpre (by kernel_rfl)
        have hg4 := gbT (gbD (gbR w3 none)) hgd
        have hz4 := hg4.size
        (try simp [depsF, bindE, List.filter_cons, bd_data, bd_chain, bd_guard, bd_phase, bd_text, bd_gc, fAt, onT_at, isV] at hd)
        obtain ⟨X6, n6, c6, Y6, m6, d6, A6, e6, e32, v6, o6⟩ := hd
        have e32 : f 26 = _ := e32
        simp [puts, dsts, Act.put, e32]
        go_wp2_with fail
        exact ⟨_, rfl, ⟨_, _, _, _, _, _, rfl, v6⟩, Or.inl (gbR _ _)⟩
      · intro f w4 hG hpre hold hd
        (try simp [depsF, bindE, List.filter_cons, bd_data, bd_chain, bd_guard, bd_phase, bd_text, bd_gc, fAt, onT_at, isV] at hd)
        first | (have hd2 := hd.1; clear hd; have hd := hd2; clear hd2) | skip
        obtain ⟨X6, n6, c6, Y6, m6, d6, A6, e6, e32, v6, o6⟩ := hd
        have e32 : f 26 = _ := e32
        simp [puts, dsts, Act.put, e32]
        go_wp2_with fail
        exact ⟨_, rfl, ⟨_, _, rfl, o6⟩, Or.inl (gbR _ _)⟩
      · intro f w4 hG hpre hold hd
        have hgd := gb6 hG hpre (by kernel_rfl)
        have hg4 := gbT (gbD (gbR w3 none)) hgd
        have hz4 := hg4.size
        (try simp [depsF, bindE, List.filter_cons, bd_data, bd_chain, bd_guard, bd_phase, bd_text, bd_gc, fAt, onT_at, isV] at hd)
        first | (have hd2 := hd.1; clear hd; have hd := hd2; clear hd2) | skip
        obtain ⟨X6, n6, c6, Y6, m6, d6, e33, v6⟩ := hd
        have e33 : f 33 = _ := e33
        have RQ := R.out.grow hg4
        have r0 := RQ.cell 0
        have r1 := RQ.cell 1
        have f0 := RQ.frozen 0
        have f1 := RQ.frozen 1
        simp at r0 r1
        have hch2 := chg_setCells g4 [.slice X6 n6 c6, .slice Y6 m6 d6] 0 w4
        obtain ⟨PB, PV, _, _⟩ := circ_put RQ v6
        simp only [setCells, Nat.zero_add, Nat.reduceAdd] at PB PV hch2
        have HPB := Lib.hid PB
        have HPV := Lib.hid PV
        clear PB PV RQ v6
        simp [puts, dsts, Act.put, e33]
        go_wp2_with fail
        exact ⟨rfl, ⟨.bool false, _, _, HPB.out, HPV.out⟩, Or.inr ⟨hch2.mono (fun y hy => .inr (by simp [hy])), ⟨fun _ h => h, fun _ h => h, fun _ h => h, fun _ h => h, fun _ h => h, fun _ h => wcT.keep h hch2 (fun y hy => by rw [hy]; exact hg3), fun _ h => wcT.keep h hch2 (fun y hy => by rw [hy]; exact hg3), fun _ h => wcA.keep h hch2 (fun y hy => by rw [hy]; exact hg3), fun _ h => slF.keep h hch2 (fun y hy => by rw [hy]; exact hg3), fun h _ => absurd rfl h, fun _ h => slF.keep h hch2 (fun y hy => by rw [hy]; exact hg3), trivial⟩⟩⟩
      · intro f w4 hG hpre hold hd
        (try simp [depsF, bindE, List.filter_cons, bd_data, bd_chain, bd_guard, bd_phase, bd_text, bd_gc, fAt, onT_at, isV] at hd)
        have h34 : slF w3.heap.size 4 (cB a b).1 (f 34) w4 := hd.1
        clear hd
        obtain ⟨A6, e6, e34, o6⟩ := h34
        simp [puts, dsts, Act.put, e34]
        go_wp2_with fail
        exact ⟨_, rfl, ⟨_, _, rfl, o6⟩, Or.inl (gbR _ _)⟩
    intro f w5 hG hd
    have hI := knowsF_get hd (i := 9) rfl
    simp only [puts, dsts, Act.put, List.filterMap_cons, List.filterMap_nil, List.setIfInBounds_toArray, List.set_cons_zero, List.set_cons_succ]
    have h6 : slF w3.heap.size 4 (cB a b).1 (f 6) w5 := knowsF_get hd (i := 10) rfl
    obtain ⟨u0, u1, hB5, hV5⟩ := hI
    obtain ⟨X5, n5, c5, Y5, m5, d5, e5⟩ := hV5.form
    rw [show u0 = .slice X5 n5 c5 from by injection e5 with e5; injection e5 with e5; injection e5, show u1 = .slice Y5 m5 d5 from by injection e5 with e5; injection e5 with e5; injection e5 with _ e5; injection e5] at hB5 hV5
    obtain ⟨Ay, cy9, e6, oy⟩ := h6
    rw [e6]
    have hch : Chg (fun y => y = g4) w3 w5 := chgD (hG.mono (fun y ⟨s, hs⟩ => by simp at hs; exact hs.2))
    have OX5 := Lib.hid (OX.out.keepT (Ts := [3]) (tyd_plst (by simp)) (by decide) R.out hch)
    have OY5 := Lib.hid oy
    have R5 := Lib.hid hB5
    have V5 := Lib.hid hV5
    have G5 := Lib.hid (gb_chg G9.out hch zb)
    have E0 := Lib.hid (hch.cell D0.out (by omega) (by omega))
    have E1 := Lib.hid (hch.cell D1.out (by omega) (by omega))
    clear hd hG hch oy hB5 hV5 e5 e6 OX R V G9 D0 D1 k0 k1 u0 u1
    have k0 := R5.out.cell 0
    have k1 := R5.out.cell 1
    simp at k0 k1
    go_wp2_with fail
    clear k0 k1
    have zz5 : g4 < w5.heap.size := R5.out.lt
    have zy5 : b9 < w5.heap.size := by omega
    refine (specWordMul_c (cB a b).2 Ax Ay cx9 cy9 (cA a).1 (cB a b).1 _ w5 V5.out.r (own4 OX5.out).1 (own4 OY5.out).1 CF.out.okB CF.out.x1 CF.out.y1).mono ?_
    rintro e w6 ⟨V4, U4, rfl, v4, o4, gx⟩
    change aggF _ (ccircuit (kMul a b).2) _ _ at v4
    change ownF _ (cints (kMul a b).1) _ _ at o4
    obtain ⟨X6, n6, c6, Y6, m6, d6, rfl⟩ := v4.form
    obtain ⟨AZ, cZ9, rfl, o4⟩ := o4.row
    have l4 : (kMul a b).1.length = 4 := (mulS_len _ _ _ 3 (Nat.le_refl _)).1
    rw [l4] at o4 ⊢
    have RQ := R5.out.grow gx
    have r0 := RQ.cell 0
    have r1 := RQ.cell 1
    have f0 := RQ.frozen 0
    have f1 := RQ.frozen 1
    simp at r0 r1
    have hch := chg_setCells g4 [.slice X6 n6 c6, .slice Y6 m6 d6] 0 w6
    obtain ⟨PB, PV, PO, PG⟩ := circ_put RQ v4
    have PG := PG w (gbT G5.out gx) zb
    simp only [setCells, Nat.zero_add, Nat.reduceAdd] at PB PV PO PG hch
    obtain ⟨w6b, hwc⟩ : ∃ q : World, (w6.setCell ⟨g4, 0, none⟩ (.slice X6 n6 c6)).setCell ⟨g4, 1, none⟩ (.slice Y6 m6 d6) = q := ⟨_, rfl⟩
    rw [hwc] at PB PV PO PG hch
    have zx := gx.size
    have OZ6 := Lib.hid (PO _ _ _ o4)
    have OX6 := Lib.hid (PO _ _ _ (OX5.out.grow gx))
    have R6 := Lib.hid PB
    have V6 := Lib.hid PV
    have G6 := Lib.hid PG
    have F06 := Lib.hid (hch.cell (gbk gx E0.out) (by omega) (by omega))
    have F16 := Lib.hid (hch.cell (gbk gx E1.out) (by omega) (by omega))
    clear RQ PB PV PO PG v4 o4 gx hch l4 R5 V5 G5 E0 E1
    have E06 := F06
    have E16 := F16
    clear F06 F16
    have zz6 := R6.out.lt
    have k0 := R6.out.cell 0
    have k1 := R6.out.cell 1
    simp at k0 k1
    go_wp2_with (fail)
    clear hwc r0 r1 f0 f1 k0 k1
    refine (specWordAdd_c (kMul a b).2 AZ Ax cZ9 cx9 (kMul a b).1 (cA a).1 _ w6b V6.out.r (own4 OZ6.out).1 (own4 OX6.out).1 CF.out.okP CF.out.z1 CF.out.x2).mono ?_
    rintro e w7 ⟨V4, U4, rfl, v4, o4, gx⟩
    change aggF _ (ccircuit (kAdd a b).2) _ _ at v4
    change ownF _ (cints (kAdd a b).1) _ _ at o4
    obtain ⟨X7, n7, c7, Y7, m7, d7, rfl⟩ := v4.form
    obtain ⟨AW, cW9, rfl, o4⟩ := o4.row
    have l4 : (kAdd a b).1.length = 4 := (sumS_len _ _ _ _ 3).1
    rw [l4] at o4 ⊢
    have RQ := R6.out.grow gx
    have r0 := RQ.cell 0
    have r1 := RQ.cell 1
    have f0 := RQ.frozen 0
    have f1 := RQ.frozen 1
    simp at r0 r1
    have hch := chg_setCells g4 [.slice X7 n7 c7, .slice Y7 m7 d7] 0 w7
    obtain ⟨PB, PV, PO, PG⟩ := circ_put RQ v4
    have PG := PG w (gbT G6.out gx) zb
    simp only [setCells, Nat.zero_add, Nat.reduceAdd] at PB PV PO PG hch
    obtain ⟨w7b, hwc⟩ : ∃ q : World, (w7.setCell ⟨g4, 0, none⟩ (.slice X7 n7 c7)).setCell ⟨g4, 1, none⟩ (.slice Y7 m7 d7) = q := ⟨_, rfl⟩
    rw [hwc] at PB PV PO PG hch
    have zx := gx.size
    have OW7 := Lib.hid (PO _ _ _ o4)
    have R7 := Lib.hid PB
    have V7 := Lib.hid PV
    have G7 := Lib.hid PG
    have F07 := Lib.hid (hch.cell (gbk gx E06.out) (by omega) (by omega))
    have F17 := Lib.hid (hch.cell (gbk gx E16.out) (by omega) (by omega))
    clear RQ PB PV PO PG v4 o4 gx hch l4 R6 V6 G6 E06 E16
    have E07 := F07
    have E17 := F17
    clear F07 F17
    have zz7 := R7.out.lt
    have k0 := R7.out.cell 0
    have k1 := R7.out.cell 1
    have k2 := R7.out.frozen 1
    simp at k0 k1
    go_wp2_with (fail)
    clear hwc r0 r1 f0 f1 k0 k1 k2
    obtain ⟨w8, hw8⟩ : ∃ q : World, w7b.setCell ⟨g4, 1, none⟩ (.slice AW 4 cW9) = q := ⟨_, rfl⟩
    have hch : Chg (fun y => y = g4) w7b w8 := by rw [← hw8]; exact chgS w7b g4 1 _
    have FIN : Hid (AggR w8 (ccircuit (kFin a b)) (.agg #[.slice X7 n7 c7, .slice AW 4 cW9])) := by
      obtain ⟨F, hF, _⟩ := V7.out
      obtain ⟨u0, u1, F0, F1, e, _, q0, _, _⟩ := ccircuit_oopen hF
      injection e with e
      injection e with e
      injection e with e0 _
      subst e0
      obtain ⟨F7, h7, _⟩ := OW7.out
      have n0 : g4 ∉ F0 := own_ty (Ts := [41]) (tyd_plst (by simp)) q0 R7.out (by decide)
      have n1 : g4 ∉ F7 := own_ty (Ts := [3]) (tyd_plst (by simp)) h7 R7.out (by decide)
      exact Lib.hid (ccircuit_mk (m := kFin a b) (CS.toRd _ (own_chgK _ q0 hch (fun x hx e => n0 (by rw [← e]; exact hx)))) (CS.toRd _ (own_chgK _ h7 hch (fun x hx e => n1 (by rw [← e]; exact hx)))))
    have G8 := Lib.hid (gb_chg G7.out hch zb)
    have F08 := Lib.hid (hch.cell E07.out (by omega) (by omega))
    have F18 := Lib.hid (hch.cell E17.out (by omega) (by omega))
    have hz8 := hch.size
    rw [hw8]
    clear hw8 hch V7 OW7 R7 G7 E07 E17
    refine (implOptimize_yes (kFin a b) _ (List.replicate 80 0) w8 FIN.out CF.out.okF.ok CF.out.no zero_bit (by have := CF.out.l4; omega)).mono ?_
    rintro e wo ⟨V9, M, us, rfl, vo, oko, hM2, hul, hout, go⟩
    obtain ⟨s0, s1, rfl, r0, r1⟩ := ccircuit_open vo
    obtain ⟨AM, cM, rfl, hcM, _, hFM⟩ := plst_rd (s := 3) (fun _ => rfl) (by omega) r0
    obtain ⟨AU, cU, rfl, _, _, _⟩ := cints_rd r1
    simp only [gt2_len] at vo hFM hcM ⊢
    obtain ⟨NM, hNM⟩ : ∃ q, M.length = q := ⟨_, rfl⟩
    obtain ⟨NU, hNU⟩ : ∃ q, us.length = q := ⟨_, rfl⟩
    rw [hNM] at vo hFM hcM hM2 ⊢
    rw [hNU] at vo ⊢
    have hu4 : NU = 4 := by have := CF.out.l4; omega
    subst hu4
    obtain ⟨w9, hw9⟩ : ∃ q : World, wo.alloc (.cells #[.slice AM NM cM, .slice AU 4 cU] 28) = q := ⟨_, rfl⟩
    have g9 : wo.grownBy w9 none := by rw [← hw9]; exact gbA (gbR _ _) _
    have R9 : Hid (Blk w9 wo.heap.size 28 #[.slice AM NM cM, .slice AU 4 cU]) := by rw [← hw9]; exact Lib.hid (Blk.new wo _ _)
    have VO := Lib.hid (AggR.grow vo g9)
    have FO := Lib.hid (hFM.grow g9)
    have G9 := Lib.hid (gbT G8.out (gbT go g9))
    have F09 := Lib.hid (gbk (gbT go g9) F08.out)
    have F19 := Lib.hid (gbk (gbT go g9) F18.out)
    have OKO := Lib.hid oko
    have HOUT := Lib.hid hout
    have HNU := Lib.hid hNU
    have HNM := Lib.hid hNM
    have HW9 := Lib.hid hw9
    have hcM' : NM ≤ cM := hcM
    clear vo hFM go g9 oko hout hNU hNM hw9 r0 r1 hul hcM FIN G8 F08 F18
    go_wp2_with fail
    rw [HW9.out]
    clear HW9
    obtain ⟨g9, hg9⟩ : ∃ q, wo.heap.size = q := ⟨_, rfl⟩
    rw [hg9] at R9 ⊢
    clear hg9
    have k0 := Lib.hid (R9.out.cell 0)
    have k1 := Lib.hid (R9.out.cell 1)
    simp only [List.getElem?_toArray, List.getElem?_cons_succ, List.getElem?_cons_zero] at k0 k1
    refine region_reg6 [onT 54 (isV (.agg #[.slice AM NM cM, .slice AU 4 cU])),
       onT 55 (zrF 80),
       onT 56 (evF w9.heap.size 4 (outC M us us.length)),
       onT 53 (evF w9.heap.size 4 (outC M us us.length)),
       onT 57 (slF w9.heap.size 4 (outC M us us.length)),
       onT 58 (isV (.bool true)),
       onT 10 (slF w9.heap.size 4 (outC M us us.length)),
       onT 11 (isV (.bool true))] [] (by kernel_rfl) (by kernel_rfl) (by kernel_rfl) ?_ ?_ ?_
    · exact stF_cons (stableF_on (isV_st _)) (stF_cons (stableF_on (zrF_st)) (stF_cons (stableF_on (evF_st)) (stF_cons (stableF_on (evF_st)) (stF_cons (stableF_on (slF_st)) (stF_cons (stableF_on (isV_st _)) (stF_cons (stableF_on (slF_st)) (stF_cons (stableF_on (isV_st _)) stF_nil)))))))
    · simp only [hops6, and_true]
      refine ⟨?_, ?_, ?_, ?_, ?_, ?_, ?_, ?_⟩
      · intro f w1 hG hpre hold hd
        have hg4 := gbT (gbD (gbR w9 none)) (gb0 hG)
        clear hG hpre hold
        have k0 := gbk hg4 (k0.out)
        have k1 := gbk hg4 (k1.out)
        (try simp [depsF, bindE, List.filter_cons, bd_data, bd_chain, bd_guard, bd_phase, bd_text, bd_gc, fAt, onT_at, isV] at hd)
        first | simp [puts, dsts, Act.put, hd] | simp [puts, dsts, Act.put]
        try clear hd
        go_wp2_with fail
        exact ⟨_, rfl, by simp [fAt, onT_at, upd_some, isV], Or.inl (gbR _ _)⟩
      · intro f w1 hG hpre hold hd
        have hg4 := gbT (gbD (gbR w9 none)) (gb0 hG)
        clear hG hpre hold
        (try simp [depsF, bindE, List.filter_cons, bd_data, bd_chain, bd_guard, bd_phase, bd_text, bd_gc, fAt, onT_at, isV] at hd)
        first | simp [puts, dsts, Act.put] | skip
        go_wp2_with (at_make; refine wp_makeN _ el_int rfl _ _ rfl 80 rfl rfl (by omega) (by unfold maxLen; omega) ?_; intro w6 o6 g6)
        rw [show (Value.int .i64 0).cells = #[.int .i64 0] from rfl, made_one] at o6
        exact ⟨_, rfl, ⟨_, rfl, Rd.ofOwn (by simpa using o6)⟩, Or.inl g6⟩
      · intro f w1 hG hpre hold hd
        have hg4 := gbT (gbD (gbR w9 none)) (gb0 hG)
        clear hG hpre hold
        (try simp [depsF, bindE, List.filter_cons, bd_data, bd_chain, bd_guard, bd_phase, bd_text, bd_gc, fAt, onT_at, isV] at hd)
        obtain ⟨e54, g, e55, iz⟩ := hd
        simp [puts, dsts, Act.put, e54, e55]
        go_wp2_with fail
        refine (specEvalCircuit_yes M us _ _ 80 (List.replicate 80 0) w1 (VO.out.grow hg4) iz (by decide) OKO.out (by have := HNU.out; omega)).mono ?_
        rintro e w6 ⟨V9, rfl, o6, g6⟩
        obtain ⟨A9, c9, rfl, o6⟩ := o6.row
        rw [outC_len M us (Nat.le_refl _), HNU.out] at o6 ⊢
        have O6 := Lib.hid (o6.lo (show w9.heap.size ≤ w1.heap.size from hg4.size))
        have G6 := Lib.hid g6
        clear o6 g6
        go_wp2_with fail
        exact ⟨_, rfl, ⟨_, _, rfl, by rw [HNU.out]; exact O6.out⟩, Or.inl G6.out⟩
      · intro f w1 hG hpre hold hd
        have hg4 := gbT (gbD (gbR w9 none)) (gb0 hG)
        clear hG hpre hold
        (try simp [depsF, bindE, List.filter_cons, bd_data, bd_chain, bd_guard, bd_phase, bd_text, bd_gc, fAt, onT_at, isV] at hd)
        obtain ⟨A9, c9, e9, o9⟩ := hd
        simp [puts, dsts, Act.put, e9]
        go_wp2_with fail
        exact ⟨_, rfl, ⟨_, _, rfl, o9⟩, Or.inl (gbR _ _)⟩
      · intro f w1 hG hpre hold hd
        have hg4 := gbT (gbD (gbR w9 none)) (gb0 hG)
        clear hG hpre hold
        (try simp [depsF, bindE, List.filter_cons, bd_data, bd_chain, bd_guard, bd_phase, bd_text, bd_gc, fAt, onT_at, isV] at hd)
        obtain ⟨A9, c9, e9, o9⟩ := hd
        simp [puts, dsts, Act.put, e9]
        go_wp2_with fail
        exact ⟨_, rfl, ⟨_, _, rfl, o9⟩, Or.inl (gbR _ _)⟩
      · intro f w1 hG hpre hold hd
        have hg4 := gbT (gbD (gbR w9 none)) (gb0 hG)
        clear hG hpre hold
        (try simp [depsF, bindE, List.filter_cons, bd_data, bd_chain, bd_guard, bd_phase, bd_text, bd_gc, fAt, onT_at, isV] at hd)
        first | (have hd2 := hd.1; clear hd; have hd := hd2; clear hd2) | skip
        obtain ⟨A9, c9, e9, o9⟩ := hd
        simp [puts, dsts, Act.put, e9]
        go_wp2_with fail
        exact ⟨_, rfl, rfl, Or.inl (gbR _ _)⟩
      · intro f w1 hG hpre hold hd
        have hg4 := gbT (gbD (gbR w9 none)) (gb0 hG)
        clear hG hpre hold
        (try simp [depsF, bindE, List.filter_cons, bd_data, bd_chain, bd_guard, bd_phase, bd_text, bd_gc, fAt, onT_at, isV] at hd)
        first | (have hd2 := hd.1; clear hd; have hd := hd2; clear hd2) | skip
        obtain ⟨A9, c9, e9, o9⟩ := hd
        simp [puts, dsts, Act.put, e9]
        go_wp2_with fail
        exact ⟨_, rfl, ⟨_, _, rfl, o9⟩, Or.inl (gbR _ _)⟩
      · intro f w1 hG hpre hold hd
        have hg4 := gbT (gbD (gbR w9 none)) (gb0 hG)
        clear hG hpre hold
        (try simp [depsF, bindE, List.filter_cons, bd_data, bd_chain, bd_guard, bd_phase, bd_text, bd_gc, fAt, onT_at, isV] at hd)
        have e9 := hd.1
        clear hd
        simp [puts, dsts, Act.put, e9]
        go_wp2_with fail
        exact ⟨_, rfl, rfl, Or.inl (gbR _ _)⟩
    intro f w10 hG hK
    have g10 := gbT (gbD (gbR w9 none)) (gb0 hG)
    clear hG
    simp only [puts, dsts, Act.put, List.filterMap_cons, List.filterMap_nil, List.setIfInBounds_toArray, List.set_cons_zero, List.set_cons_succ]
    have h10 := knowsF_get hK (i := 6) rfl
    have h11 : f 11 = .bool true := knowsF_get hK (i := 7) rfl
    obtain ⟨A12, c12, e12, o12⟩ := h10
    have e12 : f 10 = .slice A12 4 c12 := e12
    rw [e12, h11]
    have T12 := Lib.hid (own4 o12).1
    have R10 := Lib.hid (R9.out.grow g10)
    have FO10 := Lib.hid (FO.out.grow g10)
    have G10 := Lib.hid (gbT G9.out g10)
    have F010 := Lib.hid (gbk g10 F09.out)
    have F110 := Lib.hid (gbk g10 F19.out)
    clear hK o12 e12 h11 g10 R9 FO G9 F09 F19 k0 k1 VO
    go_wp2_with fail
    have RZ : Hid (w10.grownBy w10 none) := Lib.hid (gbR _ _)
    go_loopw [12] (fun i wr => ∃ k : Nat, k ≤ NM ∧ i = .int .i64 k ∧ Hid (w10.grownBy wr none)) (fun i _ => NM - (intOf i).toNat)
    case atStart => exact ⟨0, Nat.zero_le _, rfl, RZ⟩
    case round =>
      clear RZ
      obtain ⟨k, hk, rfl, HG⟩ := hrel
      have d0 := (R10.out.grow HG.out).cell 0
      simp at d0
      by_cases hlt : k < NM
      · have i1 : (k : Int) < (NM : Int) := by omega
        obtain ⟨bm, om, x9, y9, z9, rfl, hbl, hx, p0, p1, p2⟩ := gates_at (FL.grow FO10.out HG.out) hlt
        have hx2 : x9 = 2 := by
          have h1 : (gt2 M)[k]? = some (2, ((M[k]'(by rw [HNM.out]; exact hlt) : Nat) : Int), 0) := by simp [gt2, HNM.out, hlt]
          rw [h1] at hx
          injection hx with hx
          injection hx with hx _
          exact hx.symm
        subst hx2
        go_wp2_with fail
        go_roundw
        case rel => exact ⟨k + 1, by omega, by go_num, HG⟩
        case measure => simp [intOf]; omega
      · have hkn : k = NM := by omega
        subst hkn
        have i1 : ¬ (k : Int) < (k : Int) := by omega
        go_wp2_with fail
        clear d0
        have P0 := Lib.hid (gbk HG.out F010.out)
        have P1 := Lib.hid (gbk HG.out F110.out)
        have S0 := Lib.hid ((R10.out.grow HG.out).cell 0)
        simp only [List.getElem?_toArray, List.getElem?_cons_succ, List.getElem?_cons_zero] at S0
        have T9 := Lib.hid (T12.out.grow HG.out)
        have GZ := Lib.hid (gbT G10.out HG.out)
        obtain ⟨hbits, hnum⟩ := CF.out.out _ zero_bit
        rw [← HOUT.out] at hbits hnum
        have BITS := Lib.hid hbits
        have NUM := Lib.hid hnum
        have hab0 : (0 : Int) ≤ (a : Int) * (b : Int) := Int.mul_nonneg (by omega) (by omega)
        have hab1 : (a : Int) * (b : Int) ≤ 225 := by
          have h1 : a * b ≤ 15 * 15 := Nat.mul_le_mul (by omega) (by omega)
          have h2 : ((a * b : Nat) : Int) = (a : Int) * (b : Int) := by simp
          omega
        have hmod : Hid (((a : Int) * (b : Int) + x) % 16 = (((a * b + a) % 16 : Nat) : Int)) := by
          have h2 : ((a * b : Nat) : Int) = (a : Int) * (b : Int) := by simp
          have h3 := HA.out
          unfold Hid
          rw [← h2]
          omega
        clear hbits hnum HG R10 FO10 T12 F010 F110 HOUT
        have x0 := X0.out
        have x1 := XB1.out
        have y0 := Y0.out
        have y1 := YB1.out
        refine region_reg6 [onT 73 (isV (.bool true)),
           onT 74 (isV (.bool true)),
           onT 75 (isV (.slice A12 4 c12)),
           onT 76 (isV (.int .i64 (((a * b + a) % 16 : Nat) : Int))),
           onT 77 (isV (.slice (some ⟨b9, o9, none⟩) 12 d)),
           onT 78 (isV (.pointer (some ⟨b9, o9, none⟩))),
           onT 79 (isV (.int .i64 x)),
           onT 80 (isV (.int .i64 a)),
           onT 81 (isV (.slice (some ⟨b9, o9, none⟩) 12 d)),
           onT 82 (isV (.pointer (some ⟨b9, o9 + 1, none⟩))),
           onT 83 (isV (.int .i64 y)),
           onT 84 (isV (.int .i64 b)),
           onT 85 (isV (.int .i64 ((a : Int) * (b : Int)))),
           onT 86 (isV (.slice (some ⟨b9, o9, none⟩) 12 d)),
           onT 87 (isV (.pointer (some ⟨b9, o9, none⟩))),
           onT 88 (isV (.int .i64 x)),
           onT 89 (isV (.int .i64 ((a : Int) * (b : Int) + x))),
           onT 90 (isV (.int .i64 (((a * b + a) % 16 : Nat) : Int))),
           onT 91 (isV (.bool true)),
           onT 92 (isV (.bool true)),
           onT 93 (isV (.bool true)),
           onT 94 (isV (.pointer (some ⟨g9, 0, none⟩))),
           onT 95 (isV (.slice AM k cM)),
           onT 96 (isV (.int .i64 k)),
           onT 97 (isV (.bool true)),
           onT 98 (isV (.bool true)),
           onT 2 (isV (.bool true))] [] (by kernel_rfl) (by kernel_rfl) (by kernel_rfl) ?_ ?_ ?_
        · exact stF_cons (stableF_on (isV_st _)) (stF_cons (stableF_on (isV_st _)) (stF_cons (stableF_on (isV_st _)) (stF_cons (stableF_on (isV_st _)) (stF_cons (stableF_on (isV_st _)) (stF_cons (stableF_on (isV_st _)) (stF_cons (stableF_on (isV_st _)) (stF_cons (stableF_on (isV_st _)) (stF_cons (stableF_on (isV_st _)) (stF_cons (stableF_on (isV_st _)) (stF_cons (stableF_on (isV_st _)) (stF_cons (stableF_on (isV_st _)) (stF_cons (stableF_on (isV_st _)) (stF_cons (stableF_on (isV_st _)) (stF_cons (stableF_on (isV_st _)) (stF_cons (stableF_on (isV_st _)) (stF_cons (stableF_on (isV_st _)) (stF_cons (stableF_on (isV_st _)) (stF_cons (stableF_on (isV_st _)) (stF_cons (stableF_on (isV_st _)) (stF_cons (stableF_on (isV_st _)) (stF_cons (stableF_on (isV_st _)) (stF_cons (stableF_on (isV_st _)) (stF_cons (stableF_on (isV_st _)) (stF_cons (stableF_on (isV_st _)) (stF_cons (stableF_on (isV_st _)) (stF_cons (stableF_on (isV_st _)) stF_nil))))))))))))))))))))))))))
        · simp only [hops6, and_true]
          refine ⟨?_, ?_, ?_, ?_, ?_, ?_, ?_, ?_, ?_, ?_, ?_, ?_, ?_, ?_, ?_, ?_, ?_, ?_, ?_, ?_, ?_, ?_, ?_, ?_, ?_, ?_, ?_⟩
          · intro f w1 hG hpre hold hd
            have hg4 := gbT (gbD (gbR wr none)) (gb0 hG)
            clear hG hpre hold
            (try simp [depsF, bindE, List.filter_cons, bd_data, bd_chain, bd_guard, bd_phase, bd_text, bd_gc, fAt, onT_at, isV] at hd)
            first | simp [puts, dsts, Act.put, hd] | simp [puts, dsts, Act.put]
            try clear hd
            go_wp2_with fail
            exact ⟨_, rfl, by simp [fAt, onT_at, upd_some, isV], Or.inl (gbR _ _)⟩
          · intro f w1 hG hpre hold hd
            have hg4 := gbT (gbD (gbR wr none)) (gb0 hG)
            clear hG hpre hold
            (try simp [depsF, bindE, List.filter_cons, bd_data, bd_chain, bd_guard, bd_phase, bd_text, bd_gc, fAt, onT_at, isV] at hd)
            first | simp [puts, dsts, Act.put, hd] | simp [puts, dsts, Act.put]
            try clear hd
            go_wp2_with fail
            exact ⟨_, rfl, by simp [fAt, onT_at, upd_some, isV], Or.inl (gbR _ _)⟩
          · intro f w1 hG hpre hold hd
            have hg4 := gbT (gbD (gbR wr none)) (gb0 hG)
            clear hG hpre hold
            (try simp [depsF, bindE, List.filter_cons, bd_data, bd_chain, bd_guard, bd_phase, bd_text, bd_gc, fAt, onT_at, isV] at hd)
            first | simp [puts, dsts, Act.put, hd] | simp [puts, dsts, Act.put]
            try clear hd
            go_wp2_with fail
            exact ⟨_, rfl, by simp [fAt, onT_at, upd_some, isV], Or.inl (gbR _ _)⟩
          · intro f w1 hG hpre hold hd
            have hg4 := gbT (gbD (gbR wr none)) (gb0 hG)
            clear hG hpre hold
            (try simp [depsF, bindE, List.filter_cons, bd_data, bd_chain, bd_guard, bd_phase, bd_text, bd_gc, fAt, onT_at, isV] at hd)
            simp [puts, dsts, Act.put, hd]
            clear hd
            go_wp2_with fail
            refine (specNumberOf_yes _ 4 _ _ w1 (T9.out.grow hg4) (by omega) BITS.out).mono ?_
            rintro e w6 ⟨rfl, g6⟩
            rw [NUM.out]
            have G6 := Lib.hid g6
            clear g6
            go_wp2_with fail
            exact ⟨_, rfl, rfl, Or.inl G6.out⟩
          · intro f w1 hG hpre hold hd
            have hg4 := gbT (gbD (gbR wr none)) (gb0 hG)
            clear hG hpre hold
            (try simp [depsF, bindE, List.filter_cons, bd_data, bd_chain, bd_guard, bd_phase, bd_text, bd_gc, fAt, onT_at, isV] at hd)
            first | simp [puts, dsts, Act.put, hd] | simp [puts, dsts, Act.put]
            try clear hd
            go_wp2_with fail
            exact ⟨_, rfl, by simp [fAt, onT_at, upd_some, isV], Or.inl (gbR _ _)⟩
          · intro f w1 hG hpre hold hd
            have hg4 := gbT (gbD (gbR wr none)) (gb0 hG)
            clear hG hpre hold
            (try simp [depsF, bindE, List.filter_cons, bd_data, bd_chain, bd_guard, bd_phase, bd_text, bd_gc, fAt, onT_at, isV] at hd)
            first | simp [puts, dsts, Act.put, hd] | simp [puts, dsts, Act.put]
            try clear hd
            go_wp2_with fail
            exact ⟨_, rfl, by simp [fAt, onT_at, upd_some, isV], Or.inl (gbR _ _)⟩
          · intro f w1 hG hpre hold hd
            have hg4 := gbT (gbD (gbR wr none)) (gb0 hG)
            clear hG hpre hold
            have k0 := gbk hg4 (P0.out)
            (try simp [depsF, bindE, List.filter_cons, bd_data, bd_chain, bd_guard, bd_phase, bd_text, bd_gc, fAt, onT_at, isV] at hd)
            first | simp [puts, dsts, Act.put, hd] | simp [puts, dsts, Act.put]
            try clear hd
            go_wp2_with fail
            exact ⟨_, rfl, by simp [fAt, onT_at, upd_some, isV], Or.inl (gbR _ _)⟩
          · intro f w1 hG hpre hold hd
            have hg4 := gbT (gbD (gbR wr none)) (gb0 hG)
            clear hG hpre hold
            (try simp [depsF, bindE, List.filter_cons, bd_data, bd_chain, bd_guard, bd_phase, bd_text, bd_gc, fAt, onT_at, isV] at hd)
            first | simp [puts, dsts, Act.put, hd] | simp [puts, dsts, Act.put]
            try clear hd
            go_wp2_with fail
            rw [HA.out]
            exact ⟨_, rfl, by simp [fAt, onT_at, upd_some, isV], Or.inl (gbR _ _)⟩
          · intro f w1 hG hpre hold hd
            have hg4 := gbT (gbD (gbR wr none)) (gb0 hG)
            clear hG hpre hold
            (try simp [depsF, bindE, List.filter_cons, bd_data, bd_chain, bd_guard, bd_phase, bd_text, bd_gc, fAt, onT_at, isV] at hd)
            first | simp [puts, dsts, Act.put, hd] | simp [puts, dsts, Act.put]
            try clear hd
            go_wp2_with fail
            exact ⟨_, rfl, by simp [fAt, onT_at, upd_some, isV], Or.inl (gbR _ _)⟩
          · intro f w1 hG hpre hold hd
            have hg4 := gbT (gbD (gbR wr none)) (gb0 hG)
            clear hG hpre hold
            (try simp [depsF, bindE, List.filter_cons, bd_data, bd_chain, bd_guard, bd_phase, bd_text, bd_gc, fAt, onT_at, isV] at hd)
            first | simp [puts, dsts, Act.put, hd] | simp [puts, dsts, Act.put]
            try clear hd
            go_wp2_with fail
            exact ⟨_, rfl, by simp [fAt, onT_at, upd_some, isV], Or.inl (gbR _ _)⟩
          · intro f w1 hG hpre hold hd
            have hg4 := gbT (gbD (gbR wr none)) (gb0 hG)
            clear hG hpre hold
            have k1 := gbk hg4 (P1.out)
            (try simp [depsF, bindE, List.filter_cons, bd_data, bd_chain, bd_guard, bd_phase, bd_text, bd_gc, fAt, onT_at, isV] at hd)
            first | simp [puts, dsts, Act.put, hd] | simp [puts, dsts, Act.put]
            try clear hd
            go_wp2_with fail
            exact ⟨_, rfl, by simp [fAt, onT_at, upd_some, isV], Or.inl (gbR _ _)⟩
          · intro f w1 hG hpre hold hd
            have hg4 := gbT (gbD (gbR wr none)) (gb0 hG)
            clear hG hpre hold
            (try simp [depsF, bindE, List.filter_cons, bd_data, bd_chain, bd_guard, bd_phase, bd_text, bd_gc, fAt, onT_at, isV] at hd)
            first | simp [puts, dsts, Act.put, hd] | simp [puts, dsts, Act.put]
            try clear hd
            go_wp2_with fail
            rw [HB.out]
            exact ⟨_, rfl, by simp [fAt, onT_at, upd_some, isV], Or.inl (gbR _ _)⟩
          · intro f w1 hG hpre hold hd
            have hg4 := gbT (gbD (gbR wr none)) (gb0 hG)
            clear hG hpre hold
            (try simp [depsF, bindE, List.filter_cons, bd_data, bd_chain, bd_guard, bd_phase, bd_text, bd_gc, fAt, onT_at, isV] at hd)
            first | simp [puts, dsts, Act.put, hd] | simp [puts, dsts, Act.put]
            try clear hd
            go_wp2_with fail
            exact ⟨_, rfl, by simp [fAt, onT_at, upd_some, isV], Or.inl (gbR _ _)⟩
          · intro f w1 hG hpre hold hd
            have hg4 := gbT (gbD (gbR wr none)) (gb0 hG)
            clear hG hpre hold
            (try simp [depsF, bindE, List.filter_cons, bd_data, bd_chain, bd_guard, bd_phase, bd_text, bd_gc, fAt, onT_at, isV] at hd)
            first | simp [puts, dsts, Act.put, hd] | simp [puts, dsts, Act.put]
            try clear hd
            go_wp2_with fail
            exact ⟨_, rfl, by simp [fAt, onT_at, upd_some, isV], Or.inl (gbR _ _)⟩
          · intro f w1 hG hpre hold hd
            have hg4 := gbT (gbD (gbR wr none)) (gb0 hG)
            clear hG hpre hold
            (try simp [depsF, bindE, List.filter_cons, bd_data, bd_chain, bd_guard, bd_phase, bd_text, bd_gc, fAt, onT_at, isV] at hd)
            first | simp [puts, dsts, Act.put, hd] | simp [puts, dsts, Act.put]
            try clear hd
            go_wp2_with fail
            exact ⟨_, rfl, by simp [fAt, onT_at, upd_some, isV], Or.inl (gbR _ _)⟩
          · intro f w1 hG hpre hold hd
            have hg4 := gbT (gbD (gbR wr none)) (gb0 hG)
            clear hG hpre hold
            have k0 := gbk hg4 (P0.out)
            (try simp [depsF, bindE, List.filter_cons, bd_data, bd_chain, bd_guard, bd_phase, bd_text, bd_gc, fAt, onT_at, isV] at hd)
            first | simp [puts, dsts, Act.put, hd] | simp [puts, dsts, Act.put]
            try clear hd
            go_wp2_with fail
            exact ⟨_, rfl, by simp [fAt, onT_at, upd_some, isV], Or.inl (gbR _ _)⟩
          · intro f w1 hG hpre hold hd
            have hg4 := gbT (gbD (gbR wr none)) (gb0 hG)
            clear hG hpre hold
            (try simp [depsF, bindE, List.filter_cons, bd_data, bd_chain, bd_guard, bd_phase, bd_text, bd_gc, fAt, onT_at, isV] at hd)
            first | simp [puts, dsts, Act.put, hd] | simp [puts, dsts, Act.put]
            try clear hd
            go_wp2_with fail
            exact ⟨_, rfl, by simp [fAt, onT_at, upd_some, isV], Or.inl (gbR _ _)⟩
          · intro f w1 hG hpre hold hd
            have hg4 := gbT (gbD (gbR wr none)) (gb0 hG)
            clear hG hpre hold
            (try simp [depsF, bindE, List.filter_cons, bd_data, bd_chain, bd_guard, bd_phase, bd_text, bd_gc, fAt, onT_at, isV] at hd)
            first | simp [puts, dsts, Act.put, hd] | simp [puts, dsts, Act.put]
            try clear hd
            have hs : 0 ≤ (a : Int) * (b : Int) + x := by omega
            go_wp2_with fail
            rw [hmod.out]
            exact ⟨_, rfl, by simp [fAt, onT_at, upd_some, isV], Or.inl (gbR _ _)⟩
          · intro f w1 hG hpre hold hd
            have hg4 := gbT (gbD (gbR wr none)) (gb0 hG)
            clear hG hpre hold
            (try simp [depsF, bindE, List.filter_cons, bd_data, bd_chain, bd_guard, bd_phase, bd_text, bd_gc, fAt, onT_at, isV] at hd)
            first | simp [puts, dsts, Act.put, hd] | simp [puts, dsts, Act.put]
            try clear hd
            go_wp2_with fail
            exact ⟨_, rfl, by simp [fAt, onT_at, upd_some, isV], Or.inl (gbR _ _)⟩
          · intro f w1 hG hpre hold hd
            have hg4 := gbT (gbD (gbR wr none)) (gb0 hG)
            clear hG hpre hold
            (try simp [depsF, bindE, List.filter_cons, bd_data, bd_chain, bd_guard, bd_phase, bd_text, bd_gc, fAt, onT_at, isV] at hd)
            first | simp [puts, dsts, Act.put, hd] | simp [puts, dsts, Act.put]
            try clear hd
            go_wp2_with fail
            exact ⟨_, rfl, by simp [fAt, onT_at, upd_some, isV], Or.inl (gbR _ _)⟩
          · intro f w1 hG hpre hold hd
            have hg4 := gbT (gbD (gbR wr none)) (gb0 hG)
            clear hG hpre hold
            (try simp [depsF, bindE, List.filter_cons, bd_data, bd_chain, bd_guard, bd_phase, bd_text, bd_gc, fAt, onT_at, isV] at hd)
            first | simp [puts, dsts, Act.put, hd] | simp [puts, dsts, Act.put]
            try clear hd
            go_wp2_with fail
            exact ⟨_, rfl, by simp [fAt, onT_at, upd_some, isV], Or.inl (gbR _ _)⟩
          · intro f w1 hG hpre hold hd
            have hg4 := gbT (gbD (gbR wr none)) (gb0 hG)
            clear hG hpre hold
            (try simp [depsF, bindE, List.filter_cons, bd_data, bd_chain, bd_guard, bd_phase, bd_text, bd_gc, fAt, onT_at, isV] at hd)
            first | simp [puts, dsts, Act.put, hd] | simp [puts, dsts, Act.put]
            try clear hd
            go_wp2_with fail
            exact ⟨_, rfl, by simp [fAt, onT_at, upd_some, isV], Or.inl (gbR _ _)⟩
          · intro f w1 hG hpre hold hd
            have hg4 := gbT (gbD (gbR wr none)) (gb0 hG)
            clear hG hpre hold
            have k2 := gbk hg4 (S0.out)
            (try simp [depsF, bindE, List.filter_cons, bd_data, bd_chain, bd_guard, bd_phase, bd_text, bd_gc, fAt, onT_at, isV] at hd)
            first | simp [puts, dsts, Act.put, hd] | simp [puts, dsts, Act.put]
            try clear hd
            go_wp2_with fail
            exact ⟨_, rfl, by simp [fAt, onT_at, upd_some, isV], Or.inl (gbR _ _)⟩
          · intro f w1 hG hpre hold hd
            have hg4 := gbT (gbD (gbR wr none)) (gb0 hG)
            clear hG hpre hold
            (try simp [depsF, bindE, List.filter_cons, bd_data, bd_chain, bd_guard, bd_phase, bd_text, bd_gc, fAt, onT_at, isV] at hd)
            first | simp [puts, dsts, Act.put, hd] | simp [puts, dsts, Act.put]
            try clear hd
            go_wp2_with fail
            exact ⟨_, rfl, by simp [fAt, onT_at, upd_some, isV], Or.inl (gbR _ _)⟩
          · intro f w1 hG hpre hold hd
            have hg4 := gbT (gbD (gbR wr none)) (gb0 hG)
            clear hG hpre hold
            (try simp [depsF, bindE, List.filter_cons, bd_data, bd_chain, bd_guard, bd_phase, bd_text, bd_gc, fAt, onT_at, isV] at hd)
            first | simp [puts, dsts, Act.put, hd] | simp [puts, dsts, Act.put]
            try clear hd
            have hk2 : (k : Int) ≤ 2 := by omega
            go_wp2_with fail
            exact ⟨_, rfl, by simp [fAt, onT_at, upd_some, isV], Or.inl (gbR _ _)⟩
          · intro f w1 hG hpre hold hd
            have hg4 := gbT (gbD (gbR wr none)) (gb0 hG)
            clear hG hpre hold
            (try simp [depsF, bindE, List.filter_cons, bd_data, bd_chain, bd_guard, bd_phase, bd_text, bd_gc, fAt, onT_at, isV] at hd)
            first | simp [puts, dsts, Act.put, hd] | simp [puts, dsts, Act.put]
            try clear hd
            go_wp2_with fail
            exact ⟨_, rfl, by simp [fAt, onT_at, upd_some, isV], Or.inl (gbR _ _)⟩
          · intro f w1 hG hpre hold hd
            have hg4 := gbT (gbD (gbR wr none)) (gb0 hG)
            clear hG hpre hold
            (try simp [depsF, bindE, List.filter_cons, bd_data, bd_chain, bd_guard, bd_phase, bd_text, bd_gc, fAt, onT_at, isV] at hd)
            first | simp [puts, dsts, Act.put, hd] | simp [puts, dsts, Act.put]
            try clear hd
            go_wp2_with fail
            exact ⟨_, rfl, by simp [fAt, onT_at, upd_some, isV], Or.inl (gbR _ _)⟩
        intro f w11 hG hK
        have g11 := gbT (gbD (gbR wr none)) (gb0 hG)
        clear hG
        simp only [puts, dsts, Act.put, List.filterMap_cons, List.filterMap_nil, List.setIfInBounds_toArray, List.set_cons_zero, List.set_cons_succ]
        have h2 : f 2 = .bool true := knowsF_get hK (i := 26) rfl
        rw [h2]
        clear hK
        go_wp2_with fail
        go_ret
        exact ⟨rfl, gbT GZ.out g11⟩
end Go.Proofs.Ythdfkiaoahpjpaa
