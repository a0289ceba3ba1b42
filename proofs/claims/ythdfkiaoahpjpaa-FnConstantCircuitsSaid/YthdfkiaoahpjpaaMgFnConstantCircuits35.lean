/-
  The reference's builders: a circuit's copy, a full adder, a constant.
-/
import Derived.Test.YthdfkiaoahpjpaaMgFnConstantCircuits34
namespace Go.Proofs.Ythdfkiaoahpjpaa
open Go.RowKit
set_option linter.unusedVariables false
set_option linter.unusedSimpArgs false
def emR (lo : Nat) (e : TypeId) (s : Nat) : Value → World → Prop := fun v w => ∃ g, v = .slice (some ⟨g, 0, none⟩) 0 0 ∧ w.ownsRow 0 e s v 0 [] ∧ lo ≤ g
theorem emR_st {lo : Nat} {e : TypeId} {s : Nat} : stable (emR lo e s) := fun _ _ _ ⟨g, h1, h2, h3⟩ hg => ⟨g, h1, own_grow h2 hg, h3⟩
set_option maxHeartbeats 2000000 in
set_option maxRecDepth 100000 in
theorem specl14Copy_c (m : CM) (v : Value) (w0 : World) (h : AggR w0 (ccircuit m) v) (wg : m.gt.length ≤ 1048576) (wo : m.outs.length ≤ 1048576) :
    Calls Try.prog 60 #[v] w0 fun e w' => ∃ v, e = .returned v ∧ aggF w0.heap.size (ccircuit m) v w' ∧ w0.grownBy w' none := by
  obtain ⟨u1, u2, rfl, h1, h2⟩ := ccircuit_open h
  obtain ⟨A, c, rfl, hc, hm, hF⟩ := plst_rd (s := 3) (fun _ => rfl) (by omega) h1
  obtain ⟨B, d, rfl, hd1, hm2, hJ⟩ := cints_rd h2
  obtain ⟨w1, hw1⟩ : ∃ x : World, ((w0.alloc (.cells #[.slice A m.gt.length c, .slice B m.outs.length d] 28)).alloc (.cells #[.slice none 0 0, .slice none 0 0] 28)) = x := ⟨_, rfl⟩
  have GW : Hid (w0.grownBy w1 none) := by rw [← hw1]; exact gbA (gbA (gbR _ _) _) _
  have z1 : Hid (w1.heap.size = w0.heap.size + 2) := by rw [← hw1]; exact Lib.hid (by simp)
  have D1 : Hid (Blk w1 w0.heap.size 28 #[.slice A m.gt.length c, .slice B m.outs.length d]) := by rw [← hw1]; exact (Blk.new w0 _ _).grow (gbA (gbR _ _) _)
  have D3 : Hid (Blk w1 (w0.heap.size + 1) 28 #[.slice none 0 0, .slice none 0 0]) := by rw [← hw1]; exact Blk.new' _ _ _ _ (by simp)
  have IF := Lib.hid (FL.grow hF GW.out)
  have IJ := Lib.hid (hJ.grow GW.out)
  have WG := Lib.hid wg
  have WO := Lib.hid wo
  clear h h1 h2 hF hJ wg wo
  go_enter Try.func60, Try.ntmps60
  go_wp2_with fail
  clear hw1
  have hlz : w0.heap.size + 2 ≤ w1.heap.size := by have := z1.out; omega
  have d0 := D1.out.cell 0
  have d1 := D1.out.cell 1
  simp at d0 d1
  refine region_chain [.fl (emR w1.heap.size 41 3), .rd (.pointer (some ⟨w0.heap.size, 0, none⟩)), .rd (.slice A m.gt.length c), .ch, .fl (emR w1.heap.size 3 1), .rd (.pointer (some ⟨w0.heap.size, 1, none⟩)), .rd (.slice B m.outs.length d), .ch, .ch, .ch] (fun _ => False)
    [⟨[], fun _ w' => w1.drew.grownBy w' none⟩,
     ⟨[6], fun l w' => ownF (w0.heap.size + 2) (cgates m.gt) (l.getD 0 undef) w'⟩,
     ⟨[6, 10], fun l w' => ownL (w0.heap.size + 2) [cgates m.gt, cints m.outs] [l.getD 0 undef, l.getD 1 undef] w'⟩,
     ⟨[11], fun l w' => aggF (w0.heap.size + 2) (ccircuit m) (l.getD 0 undef) w'⟩,
     ⟨[], fun _ w' => ∃ F, SOF 28 (ccircuit m) (w0.heap.size + 1) F w' ∧ (∀ x ∈ F, w0.heap.size ≤ x) ∧ w0.grownBy w' none⟩]
    (by kernel_rfl) (by kernel_rfl) (by kernel_rfl) 4 (by kernel_rfl) ?_ (gbR _ _) rfl ?_ ?_
  · have hst : stablesF [⟨[], fun _ w' => w1.drew.grownBy w' none⟩, ⟨[6], fun l w' => ownF (w0.heap.size + 2) (cgates m.gt) (l.getD 0 undef) w'⟩, ⟨[6, 10], fun l w' => ownL (w0.heap.size + 2) [cgates m.gt, cints m.outs] [l.getD 0 undef, l.getD 1 undef] w'⟩, ⟨[11], fun l w' => aggF (w0.heap.size + 2) (ccircuit m) (l.getD 0 undef) w'⟩, ⟨[], fun _ w' => ∃ F, SOF 28 (ccircuit m) (w0.heap.size + 1) F w' ∧ (∀ x ∈ F, w0.heap.size ≤ x) ∧ w0.grownBy w' none⟩] := by
      refine stF_cons (fun l w1 w2 h hg => gbT h hg) ?_
      refine stF_cons (chain_st fun l w1 w2 h hg => h.grow hg) ?_
      refine stF_cons (chain_st fun l w1 w2 h hg => h.grow hg) ?_
      refine stF_cons (chain_st fun l w1 w2 h hg => h.grow hg) ?_
      refine stF_cons (chain_st fun l w1 w2 ⟨F, h1, h2, h3⟩ hg => ⟨F, h1.grow hg, h2, gbT h3 hg⟩) stF_nil
    simp only [flOk, true_and, and_true]
    exact ⟨⟨emR_st, hst⟩, ⟨emR_st, hst⟩⟩
  · simp only [hopsK, hopK, Kd.next, and_true]
    refine ⟨?_, ?_, ?_, ?_, ?_, ?_, ?_, ?_, ?_, ?_⟩
    · intro f w4 hG hd
      have hg4 := gbT (gbD (gbR w1 none)) (chgF hG)
      have hz4 := hg4.size
      clear hd
      simp [puts, dsts, Act.put]
      go_wp2_with fail
      exact ⟨_, rfl, ⟨_, rfl, World.ownsRow_made w4 #[] 0 (Nat.zero_le _) (by simp) rfl, hg4.size⟩, gbA (gbR _ none) _⟩
    · intro f w4 hG hd
      have hg4 := gbT (gbD (gbR w1 none)) (chgF hG)
      (try simp [depsC, dstAt, kAt, bindE, List.filter_cons, bd_data, bd_chain, bd_guard, bd_phase, bd_text, bd_gc] at hd)
      (first | simp [puts, dsts, Act.put, hd] | simp [puts, dsts, Act.put])
      clear hd
      go_wp2_with fail
      exact ⟨rfl, rfl⟩
    · intro f w4 hG hd
      have hg4 := gbT (gbD (gbR w1 none)) (chgF hG)
      have k0 := gbk hg4 (d0)
      (try simp [depsC, dstAt, kAt, bindE, List.filter_cons, bd_data, bd_chain, bd_guard, bd_phase, bd_text, bd_gc] at hd)
      (first | simp [puts, dsts, Act.put, hd] | simp [puts, dsts, Act.put])
      clear hd
      go_wp2_with fail
      exact ⟨rfl, rfl⟩
    · intro f w4 hG hI hd
      have hg4 := gbT (gbD (gbR w1 none)) (chgF hG)
      have hz4 := hg4.size
      (try simp [depsC, dstAt, kAt, bindE, List.filter_cons, bd_data, bd_chain, bd_guard, bd_phase, bd_text, bd_gc] at hd)
      obtain ⟨⟨g, e5, o5, l5⟩, hd⟩ := hd
      simp [puts, dsts, Act.put, hd, e5]
      clear hd
      rw [e5] at o5
      go_wp2_with ((at_builtin; refine wp_appendE w4 elGate rfl (.tmp 3) (.tmp 5) rfl g o5 rfl A m.gt.length c _ rfl (FL.grow IF.out hg4).rd (fun u hu => by obtain ⟨x, _, hx⟩ := List.mem_flatMap.1 hu; exact c3_one x u hx) (by have := WG.out; unfold maxLen; omega) (by have := WG.out; omega) ?_; intro v6 w6 o6 g6 n6))
      have O6 : Hid (ownF (w0.heap.size + 2) (cgates m.gt) v6 w6) := Lib.hid ⟨_, plst_own (s := 3) (fun _ => rfl) (by omega) c3_one o6, fun x hx => by rcases n6 x (by simpa using hx) with h6 | h6 <;> omega⟩
      exact ⟨_, rfl, O6.out, ⟨Chg.of g6 (by simp), by simp [keepsC, dstAt]; exact ⟨fun h => emR_st _ _ _ h g6, fun h => emR_st _ _ _ h g6⟩⟩⟩
    · intro f w4 hG hd
      have hg4 := gbT (gbD (gbR w1 none)) (chgF hG)
      have hz4 := hg4.size
      clear hd
      simp [puts, dsts, Act.put]
      go_wp2_with fail
      exact ⟨_, rfl, ⟨_, rfl, World.ownsRow_made w4 #[] 0 (Nat.zero_le _) (by simp) rfl, hg4.size⟩, gbA (gbR _ none) _⟩
    · intro f w4 hG hd
      have hg4 := gbT (gbD (gbR w1 none)) (chgF hG)
      (try simp [depsC, dstAt, kAt, bindE, List.filter_cons, bd_data, bd_chain, bd_guard, bd_phase, bd_text, bd_gc] at hd)
      (first | simp [puts, dsts, Act.put, hd] | simp [puts, dsts, Act.put])
      clear hd
      go_wp2_with fail
      exact ⟨rfl, rfl⟩
    · intro f w4 hG hd
      have hg4 := gbT (gbD (gbR w1 none)) (chgF hG)
      have k1 := gbk hg4 (d1)
      (try simp [depsC, dstAt, kAt, bindE, List.filter_cons, bd_data, bd_chain, bd_guard, bd_phase, bd_text, bd_gc] at hd)
      (first | simp [puts, dsts, Act.put, hd] | simp [puts, dsts, Act.put])
      clear hd
      go_wp2_with fail
      exact ⟨rfl, rfl⟩
    · intro f w4 hG hI hd
      have hg4 := gbT (gbD (gbR w1 none)) (chgF hG)
      have hz4 := hg4.size
      have H8 : Hid (ownF (w0.heap.size + 2) (cgates m.gt) (f 6) w4) := hI
      clear hI
      (try simp [depsC, dstAt, kAt, bindE, List.filter_cons, bd_data, bd_chain, bd_guard, bd_phase, bd_text, bd_gc] at hd)
      obtain ⟨⟨g, e5, o5, l5⟩, hd⟩ := hd
      simp [puts, dsts, Act.put, hd, e5]
      clear hd
      rw [e5] at o5
      go_wp2_with ((at_builtin; refine wp_appendE w4 el_int rfl (.tmp 7) (.tmp 9) rfl g o5 rfl B m.outs.length d _ rfl (IJ.out.grow hg4) (fun u hu => by obtain ⟨x, _, rfl⟩ := List.mem_map.1 hu; rfl) (by have := WO.out; unfold maxLen; omega) (by have := WO.out; omega) ?_; intro v6 w6 o6 g6 n6))
      obtain ⟨F0, q0, l0⟩ := H8.out
      have q1 := own_growK _ q0 g6
      have q2 : (cints m.outs).own w6 v6.ownBlock.toList v6 := plst_own (s := 1) (f := fiC) (fun _ => rfl) (by omega) fiC_one (by rw [flat_fiC]; exact o6)
      have O6 : Hid (ownL (w0.heap.size + 2) [cgates m.gt, cints m.outs] [f 6, v6] w6) := Lib.hid ⟨_, OwnAll.cons q1 (OwnAll.cons q2 (OwnAll.nil _) (by simp)) (fun x hx => by simpa using gi_disj q1 q2 x hx), fun x hx => by
        simp only [List.flatten_cons, List.flatten_nil, List.append_nil, List.mem_append] at hx
        rcases hx with hx | hx
        · exact l0 x hx
        · rcases n6 x (by simpa using hx) with h6 | h6 <;> omega⟩
      exact ⟨_, rfl, O6.out, ⟨Chg.of g6 (by simp), by simp [keepsC, dstAt]; exact ⟨fun h => emR_st _ _ _ h g6, fun h => emR_st _ _ _ h g6⟩⟩⟩
    · intro f w4 hG hI hd
      have hg4 := gbT (gbD (gbR w1 none)) (chgF hG)
      have hz4 := hg4.size
      have o7 : ownL (w0.heap.size + 2) [cgates m.gt, cints m.outs] [f 6, f 10] w4 := hI
      obtain ⟨F9, o9, l9⟩ := o7.agg
      obtain ⟨A1, n1, s1, A2, n2, s2, e⟩ := ccircuit_oform o9
      injection e with e
      injection e with e
      injection e with e8 e
      injection e with e11 _
      rw [e8, e11] at o9
      (try simp [depsC, dstAt, kAt, bindE, List.filter_cons, bd_data, bd_chain, bd_guard, bd_phase, bd_text, bd_gc] at hd)
      simp [puts, dsts, Act.put, hd, e8, e11]
      clear hd
      go_wp2_with fail
      exact ⟨_, rfl, ⟨F9, o9, l9⟩, ⟨Chg.refl _ _, by simp [keepsC, dstAt]⟩⟩
    · intro f w4 hG hI hd
      have hg4 := gbT (gbD (gbR w1 none)) (chgF hG)
      have hz4 := hg4.size
      obtain ⟨F, o8, l8⟩ := hI
      have o8 : AggO w4 (ccircuit m) F (f 11) := o8
      obtain ⟨A1, n1, s1, A2, n2, s2, e8⟩ := ccircuit_oform o8
      rw [e8] at o8
      have R4 := D3.out.grow hg4
      have f0 := R4.frozen 0
      have f1 := R4.frozen 1
      have b0 := R4.cell 0
      have b1 := R4.cell 1
      simp at b0 b1
      have RS := Lib.hid (SOF.store R4 (us := [.slice A1 n1 s1, .slice A2 n2 s2]) rfl o8 (fun hx => by have := l8 _ hx; omega))
      have GS := Lib.hid (gb_chg (gbT GW.out hg4) (chg_setCells (w0.heap.size + 1) [.slice A1 n1 s1, .slice A2 n2 s2] 0 w4) (by omega))
      (try simp [depsC, dstAt, kAt, bindE, List.filter_cons, bd_data, bd_chain, bd_guard, bd_phase, bd_text, bd_gc] at hd)
      simp [puts, dsts, Act.put, hd, e8]
      clear hd R4
      go_wp2_with fail
      exact ⟨rfl, .bool false, F, RS.out, fun x hx => by have := l8 x hx; omega, GS.out⟩
  intro f w9 hI hd
  simp only [puts, dsts, Act.put, List.filterMap_cons, List.filterMap_nil, List.setIfInBounds_toArray, List.set_cons_zero, List.set_cons_succ]
  obtain ⟨F, hS, hl, hG⟩ := hI
  obtain ⟨vs, hB, hA⟩ := hS.agg
  have HA := Lib.hid hA
  have HL := Lib.hid hl
  have HG := Lib.hid hG
  clear hd hS hA hl hG d0 d1
  go_wp2_with fail
  refine ret_c Try.results60 (by rfl) stCircuit (cs := vs.toArray) hB (by rw [List.size_toArray]; exact agg_len HA.out) (by rfl) ?_
  exact ⟨_, rfl, ⟨F, HA.out, HL.out⟩, HG.out⟩
set_option maxHeartbeats 4000000 in
set_option maxRecDepth 100000 in
theorem specl14Full_c (m : CM) (g lo hi : Nat) (x y c : Int) (w : World) (h : BS 28 lo hi m g w) (hm : m.gt.length ≤ 90000) (hlo : lo ≤ w.heap.size) :
    Calls Try.prog 95 #[.pointer (some ⟨g, 0, none⟩), .int .i64 x, .int .i64 y, .int .i64 c] w fun e w' => e = .returned (.tuple #[.int .i64 ((m.gt.length : Int) + 2), .int .i64 ((m.gt.length : Int) + 4)]) ∧ Bld 28 lo hi (adderM m x y c) g w w' := by
  go_enter Try.func95, Try.ntmps95
  go_wp2_with fail
  refine (specgate_c m g lo hi 3 x c w h (by omega) hlo).mono ?_
  rintro e w1 ⟨rfl, b1⟩
  obtain ⟨m1, hm1⟩ : ∃ q, m.put 3 x c = q := ⟨_, rfl⟩
  have l1 : m1.gt.length = m.gt.length + 1 := by rw [← hm1]; exact put_len m _ _ _
  rw [hm1] at b1
  have B1 := Lib.hid b1
  have z1 := b1.2.size
  have HM1 := Lib.hid hm1
  have L1 := Lib.hid l1
  clear b1 hm1 l1 h
  go_wp2_with fail
  refine (specgate_c m1 g lo hi 3 y c w1 B1.out.1 (by have := L1.out; omega) (by omega)).mono ?_
  rintro e w2 ⟨rfl, b2⟩
  obtain ⟨m2, hm2⟩ : ∃ q, m1.put 3 y c = q := ⟨_, rfl⟩
  have l2 : m2.gt.length = m.gt.length + 2 := by rw [← hm2, put_len, L1.out]
  rw [hm2] at b2
  have B2 := Lib.hid (B1.out.trans b2)
  have z2 := b2.2.size
  have HM2 := Lib.hid hm2
  have L2 := Lib.hid l2
  clear b2 hm2 l2 B1
  go_wp2_with fail
  refine (specgate_c m2 g lo hi 3 x (m1.gt.length) w2 B2.out.1 (by have := L2.out; omega) (by omega)).mono ?_
  rintro e w3 ⟨rfl, b3⟩
  obtain ⟨m3, hm3⟩ : ∃ q, m2.put 3 x (m1.gt.length) = q := ⟨_, rfl⟩
  have l3 : m3.gt.length = m.gt.length + 3 := by rw [← hm3, put_len, L2.out]
  rw [hm3] at b3
  have B3 := Lib.hid (B2.out.trans b3)
  have z3 := b3.2.size
  have HM3 := Lib.hid hm3
  have L3 := Lib.hid l3
  clear b3 hm3 l3 B2
  go_wp2_with fail
  refine (specgate_c m3 g lo hi 4 (m.gt.length) (m1.gt.length) w3 B3.out.1 (by have := L3.out; omega) (by omega)).mono ?_
  rintro e w4 ⟨rfl, b4⟩
  obtain ⟨m4, hm4⟩ : ∃ q, m3.put 4 (m.gt.length) (m1.gt.length) = q := ⟨_, rfl⟩
  have l4 : m4.gt.length = m.gt.length + 4 := by rw [← hm4, put_len, L3.out]
  rw [hm4] at b4
  have B4 := Lib.hid (B3.out.trans b4)
  have z4 := b4.2.size
  have HM4 := Lib.hid hm4
  have L4 := Lib.hid l4
  clear b4 hm4 l4 B3
  go_wp2_with fail
  refine (specgate_c m4 g lo hi 3 (m3.gt.length) c w4 B4.out.1 (by have := L4.out; omega) (by omega)).mono ?_
  rintro e w5 ⟨rfl, b5⟩
  have B5 := Lib.hid (B4.out.trans b5)
  clear b5
  go_wp2_with fail
  refine bodyPost_ret (v := .tuple #[.int .i64 m2.gt.length, .int .i64 m4.gt.length]) (by simp [results, Try.results95]) rfl ?_
  refine ⟨?_, ?_⟩
  · rw [show (m2.gt.length : Int) = (m.gt.length : Int) + 2 by have := L2.out; omega, show (m4.gt.length : Int) = (m.gt.length : Int) + 4 by have := L4.out; omega]
  · have he : adderM m x y c = m4.put 3 (m3.gt.length) c := by unfold adderM; rw [HM1.out, HM2.out, HM3.out, HM4.out]
    rw [he]
    exact B5.out
set_option maxHeartbeats 2000000 in
set_option maxRecDepth 100000 in
theorem specl14Const_c (m : CM) (g lo hi n : Nat) (w5 : World) (h : BS 28 lo hi m g w5) (hm : m.gt.length ≤ 90000) (hn : n ≤ 15) (hlo : lo ≤ w5.heap.size) (hhi : hi ≤ w5.heap.size) :
    Calls Try.prog 63 #[.pointer (some ⟨g, 0, none⟩), .int .i64 n] w5 fun e w' => ∃ v, e = .returned v ∧ ownF w5.heap.size (cints (constTo m n 4).1) v w' ∧ Bld 28 lo hi (constTo m n 4).2 g w5 w' := by
  obtain ⟨w6, hw6⟩ : ∃ q : World, w5.alloc (.cells #[] 3) = q := ⟨_, rfl⟩
  have G6 : Hid (w5.grownBy w6 none) := by rw [← hw6]; exact Lib.hid (gbA (gbR _ _) _)
  have R1 : Hid (ownF w5.heap.size (cints (constTo m n 0).1) (.slice (some ⟨w5.heap.size, 0, none⟩) 0 0) w6) := by
    rw [← hw6]
    exact Lib.hid (ownF.ints (World.ownsRow_made w5 #[] 0 (Nat.le_refl _) (by simp) rfl))
  have BL : Hid (Bld 28 lo hi (constTo m n 0).2 g w5 w6) := Lib.hid ⟨h.grow G6.out, GBT.grow G6.out⟩
  clear G6 h
  go_enter Try.func63, Try.ntmps63
  go_wp2_with fail
  try rw [hw6]
  clear hw6
  go_loopw [5, 6] (fun t i wr => ∃ k c1 : Nat, ∃ A1 : Option Addr, k ≤ 4 ∧ i = .int .i64 k ∧ t = .slice A1 k c1 ∧ Hid (ownF w5.heap.size (cints (constTo m n k).1) (.slice A1 k c1) wr) ∧ Hid (Bld 28 lo hi (constTo m n k).2 g w5 wr)) (fun _ i _ => 4 - (intOf i).toNat)
  case atStart => exact ⟨0, 0, _, Nat.zero_le _, rfl, rfl, R1, BL⟩
  case round =>
    clear R1 BL
    obtain ⟨k, c1, A1, hk, rfl, rfl, RO, BL⟩ := hrel
    obtain ⟨l1, l2⟩ := constTo_len m n k
    have hst : constTo m n (k + 1) = ((constTo m n k).1 ++ [((constTo m n k).2.gt.length : Int)], (constTo m n k).2.put 2 (bitAt n k) 0) := rfl
    obtain ⟨p, hp⟩ : ∃ p, constTo m n k = p := ⟨_, rfl⟩
    rw [hp] at l1 l2 RO BL hst
    have HST := Lib.hid hst
    have HP := Lib.hid hp
    have L1 := Lib.hid l1
    have L2 := Lib.hid l2
    have hz := BL.out.2.size
    clear hst hp l1 l2
    by_cases hlt : k < 4
    · have i1 : (k : Int) < 4 := by omega
      go_wp2_with fail
      refine (specgate_c p.2 g lo hi 2 _ 0 wr BL.out.1 (by have := L2.out; omega) (by omega)).mono ?_
      rintro e w7 ⟨rfl, b7⟩
      rw [bit_and] at b7
      have O7 := Lib.hid (GBT.ownF b7.2 hTCI RO.out)
      have B7 := Lib.hid (BL.out.trans b7)
      have hz7 := b7.2.size
      clear b7 RO BL
      go_wp2_with (at_builtin; refine wp_pushI w7 w7.heap.size rfl rfl (.tmp 12) (.tmp 20) rfl p.2.gt.length w5.heap.size A1 k c1 p.1 O7.out L1.out rfl rfl (by omega) (by omega) ?_; intro A8 c8 w8 O8 C8)
      have O9 : Hid (ownF w5.heap.size (cints (constTo m n (k + 1)).1) (.slice A8 (k + 1) c8) w8) := by rw [HST.out]; exact O8
      have B9 : Hid (Bld 28 lo hi (constTo m n (k + 1)).2 g w5 w8) := by rw [HST.out]; exact Lib.hid (B7.out.push C8.out (by omega) (Nat.le_refl _))
      clear O7 B7 O8 C8
      go_roundw
      case rel => exact ⟨k + 1, c8, A8, by omega, by go_num, rfl, O9, B9⟩
      case measure => simp [intOf]; omega
    · have hk4 : k = 4 := by omega
      subst hk4
      go_wp2_with fail
      refine bodyPost_ret (by simp [results, Try.results63]; rfl) rfl ?_
      refine ⟨_, rfl, ?_⟩
      rw [HP.out]
      exact ⟨RO.out, BL.out⟩
end Go.Proofs.Ythdfkiaoahpjpaa
