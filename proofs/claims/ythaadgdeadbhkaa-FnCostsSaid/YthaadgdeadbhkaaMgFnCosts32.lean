/-
  l28Keys, l28Arith of the reference: copies.
-/
import Derived.Test.YthaadgdeadbhkaaMgFnCosts29
import Derived.Test.YthaadgdeadbhkaaMgFnCosts20
import Derived.Test.YthaadgdeadbhkaaMgFnCosts25
import Derived.Test.YthaadgdeadbhkaaMgFnCosts31
namespace Go.Proofs.Ythaadgdeadbhkaa
open Go.RowKit
set_option linter.unusedVariables false
set_option linter.unusedSimpArgs false
def emptyT (lo : Nat) (T : TypeId) (s : Nat) (v : Value) (w : World) : Prop := ∃ g, v = .slice (some ⟨g, 0, none⟩) 0 0 ∧ lo ≤ g ∧ w.ownsRow 0 T s (.slice (some ⟨g, 0, none⟩) 0 0) 0 []
theorem emptyT_st {lo : Nat} {T : TypeId} {s : Nat} : stable (emptyT lo T s) := fun v w w' ⟨g, h1, h2, h4⟩ hg => ⟨g, h1, h2, own_grow h4 hg⟩
theorem ownL_typ2 {lo : Nat} {L : List (Int × Int × Int)} {M : List Int} {v u : Value} {w : World} (h : ownF lo (csteps L) v w) (k : ownF lo (cints M) u w) : ownL lo [csteps L, cints M] [v, u] w := by
  obtain ⟨F, h1, h2⟩ := h
  obtain ⟨G, k1, k2⟩ := k
  refine ⟨[F, G], OwnAll.cons h1 (OwnAll.cons k1 (OwnAll.nil _) (by simp)) (fun g hg hg' => ?_), fun x hx => ?_⟩
  · have hg' : g ∈ G := by simpa using hg'
    obtain ⟨c1, T1, z1, e1, t1⟩ := tyd_plst (Ts := [95]) (by simp) w F v h1 g hg
    obtain ⟨c2, T2, z2, e2, t2⟩ := tyd_plst (Ts := [3]) (by simp) w G u k1 g hg'
    rw [e1] at e2
    injection e2 with e2
    injection e2 with _ e3 _
    simp at t1 t2
    rw [t1, t2] at e3
    exact absurd e3 (by decide)
  · simp only [List.flatten_cons, List.flatten_nil, List.append_nil, List.mem_append] at hx
    rcases hx with hx | hx
    · exact h2 x hx
    · exact k2 x hx
set_option maxHeartbeats 2000000 in
set_option maxRecDepth 100000 in
theorem specl28Keys_c (k : KM) (kv : Value) (w0 : World) (h : AggR w0 (ckeys k) kv) (wk : kwf k) :
    Calls Try.prog 81 #[kv] w0 fun e w' => ∃ v, e = .returned v ∧ aggF w0.heap.size (ckeys k) v w' ∧ w0.grownBy w' none := by
  obtain ⟨A, c, rfl, hc, hm, hI⟩ := ckeys_sl h
  obtain ⟨w1, hw1⟩ : ∃ x : World, ((w0.alloc (.cells #[.int .i64 k.p, .slice A k.al.length c] 26)).alloc (.cells #[.int .i64 0, .slice none 0 0] 26)) = x := ⟨_, rfl⟩
  have GW : Hid (w0.grownBy w1 none) := by rw [← hw1]; exact gbA (gbA (gbR _ _) _) _
  have z1 : Hid (w1.heap.size = w0.heap.size + 2) := by rw [← hw1]; exact Lib.hid (by simp)
  have D1 : Hid (Blk w1 w0.heap.size 26 #[.int .i64 k.p, .slice A k.al.length c]) := by rw [← hw1]; exact (Blk.new w0 _ _).grow (gbA (gbR _ _) _)
  have D3 : Hid (Blk w1 (w0.heap.size + 1) 26 #[.int .i64 0, .slice none 0 0]) := by rw [← hw1]; exact Blk.new' _ _ _ _ (by simp)
  have IS := Lib.hid (hI.grow GW.out)
  have WK := Lib.hid wk.2
  clear h hI wk
  go_enter Try.func81, Try.ntmps81
  go_wp2_with fail
  clear hw1
  have hlz : w0.heap.size + 2 ≤ w1.heap.size := by have := z1.out; omega
  have d0 := D1.out.cell 0
  have d1 := D1.out.cell 1
  simp at d0 d1
  refine region_chain [.rd (.pointer (some ⟨w0.heap.size, 0, none⟩)), .rd (.int .i64 k.p), .fl (emptyS (w0.heap.size + 2)), .rd (.pointer (some ⟨w0.heap.size, 1, none⟩)), .rd (.slice A k.al.length c), .ch, .ch, .ch] (fun _ => False)
    [⟨[], fun _ w' => w1.drew.grownBy w' none⟩,
     ⟨[8], fun l w' => ownF (w0.heap.size + 2) (cints k.al) (l.getD 0 undef) w'⟩,
     ⟨[9], fun l w' => aggF (w0.heap.size + 2) (ckeys k) (l.getD 0 undef) w'⟩,
     ⟨[], fun _ w' => ∃ F, SOF 26 (ckeys k) (w0.heap.size + 1) F w' ∧ (∀ x ∈ F, w0.heap.size ≤ x) ∧ w0.grownBy w' none⟩]
    (by kernel_rfl) (by kernel_rfl) (by kernel_rfl) 3 (by kernel_rfl) ?_ (gbR _ _) rfl ?_ ?_
  · have hst : stablesF [⟨[], fun _ w' => w1.drew.grownBy w' none⟩, ⟨[8], fun l w' => ownF (w0.heap.size + 2) (cints k.al) (l.getD 0 undef) w'⟩, ⟨[9], fun l w' => aggF (w0.heap.size + 2) (ckeys k) (l.getD 0 undef) w'⟩, ⟨[], fun _ w' => ∃ F, SOF 26 (ckeys k) (w0.heap.size + 1) F w' ∧ (∀ x ∈ F, w0.heap.size ≤ x) ∧ w0.grownBy w' none⟩] := by
      refine stF_cons (fun l w1 w2 h hg => gbT h hg) ?_
      refine stF_cons (chain_st fun l w1 w2 h hg => ownF.grow h hg) ?_
      refine stF_cons (chain_st fun l w1 w2 h hg => aggF.grow h hg) ?_
      exact stF_cons (chain_st fun l w1 w2 ⟨F, h1, h2, h3⟩ hg => ⟨F, h1.grow hg, h2, gbT h3 hg⟩) stF_nil
    simp only [flOk, true_and, and_true]
    exact ⟨emptyS_st, hst⟩
  · simp only [hopsK, hopK, Kd.next, and_true]
    refine ⟨?_, ?_, ?_, ?_, ?_, ?_, ?_, ?_⟩
    · intro f w4 hG hd
      have hg4 := gbT (gbD (gbR w1 none)) (chgF hG)
      (try simp [depsC, dstAt, kAt, bindE, List.filter_cons, bd_data, bd_chain, bd_guard, bd_phase, bd_text, bd_gc] at hd)
      (first | simp [puts, dsts, Act.put, hd] | simp [puts, dsts, Act.put])
      clear hd
      go_wp2_with fail
      exact ⟨rfl, rfl⟩
    · intro f w4 hG hd
      have hg4 := gbT (gbD (gbR w1 none)) (chgF hG)
      have k0 := gbk hg4 (d0)
      (try simp [depsC, dstAt, kAt, bindE, List.filter_cons, bd_data, bd_chain, bd_guard, bd_phase, bd_text, bd_gc] at hd)
      (first | simp [puts, dsts, Act.put, hd] | simp [puts, dsts, Act.put])
      clear hd
      go_wp2_with fail
      exact ⟨rfl, rfl⟩
    · intro f w4 hG hd
      have hg4 := gbT (gbD (gbR w1 none)) (chgF hG)
      have hz4 := hg4.size
      clear hd
      simp [puts, dsts, Act.put]
      go_wp2_with fail
      exact ⟨_, rfl, ⟨w4.heap.size, rfl, by omega, Blk.new _ _ _, World.ownsRow_made w4 #[] 0 (Nat.zero_le _) (by simp) rfl⟩, gbA (gbR _ _) _⟩
    · intro f w4 hG hd
      have hg4 := gbT (gbD (gbR w1 none)) (chgF hG)
      (try simp [depsC, dstAt, kAt, bindE, List.filter_cons, bd_data, bd_chain, bd_guard, bd_phase, bd_text, bd_gc] at hd)
      (first | simp [puts, dsts, Act.put, hd] | simp [puts, dsts, Act.put])
      clear hd
      go_wp2_with fail
      exact ⟨rfl, rfl⟩
    · intro f w4 hG hd
      have hg4 := gbT (gbD (gbR w1 none)) (chgF hG)
      have k1 := gbk hg4 (d1)
      (try simp [depsC, dstAt, kAt, bindE, List.filter_cons, bd_data, bd_chain, bd_guard, bd_phase, bd_text, bd_gc] at hd)
      (first | simp [puts, dsts, Act.put, hd] | simp [puts, dsts, Act.put])
      clear hd
      go_wp2_with fail
      exact ⟨rfl, rfl⟩
    · intro f w4 hG hI hd
      have hg4 := gbT (gbD (gbR w1 none)) (chgF hG)
      have hz4 := hg4.size
      have I4 := Lib.hid (IS.out.grow hg4)
      (try simp [depsC, dstAt, kAt, bindE, List.filter_cons, bd_data, bd_chain, bd_guard, bd_phase, bd_text, bd_gc] at hd)
      obtain ⟨⟨g3, e3, hg3, B3, O3⟩, e7⟩ := hd
      simp [puts, dsts, Act.put, e3, e7]
      go_wp2_with (at_builtin; refine wp_appendF w4 el_int rfl (.tmp 5) (.tmp 7) rfl g3 O3 rfl A k.al.length c _ rfl I4.out (by simp [Value.oneCell']) (by have := WK.out; unfold maxLen; omega) (by have := WK.out; omega) ?_; intro v6 w6 o6 g6 n6)
      have O6 := Lib.hid (ownF.ints (lo := w0.heap.size + 2) (own_rebase o6 (fun g hg => (n6 g hg).elim (fun h => by omega) (fun h => by have := h.1; omega))))
      have G6 := Lib.hid g6
      clear o6 g6 n6
      exact ⟨_, rfl, O6.out, ⟨Chg.of G6.out (by simp), by simp [keepsC, dstAt]; exact fun h => emptyS_st _ _ _ h G6.out⟩⟩
    · intro f w4 hG hI hd
      have hg4 := gbT (gbD (gbR w1 none)) (chgF hG)
      have hz4 := hg4.size
      obtain ⟨F, o7, l7⟩ := hI
      have o7 : (cints k.al).own w4 F (f 8) := o7
      obtain ⟨B1, n1, c1, e7⟩ := row_form o7
      rw [e7] at o7
      (try simp [depsC, dstAt, kAt, bindE, List.filter_cons, bd_data, bd_chain, bd_guard, bd_phase, bd_text, bd_gc] at hd)
      simp [puts, dsts, Act.put, hd, e7]
      clear hd
      go_wp2_with fail
      exact ⟨_, rfl, ⟨_, ckeys_omk o7, fun x hx => l7 x (by simpa using hx)⟩, ⟨Chg.refl _ _, by simp [keepsC, dstAt]⟩⟩
    · intro f w4 hG hI hd
      have hg4 := gbT (gbD (gbR w1 none)) (chgF hG)
      have hz4 := hg4.size
      obtain ⟨F, o8, l8⟩ := hI
      have o8 : AggO w4 (ckeys k) F (f 9) := o8
      obtain ⟨B1, n1, c1, e8⟩ := ckeys_oform o8
      rw [e8] at o8
      have R4 := D3.out.grow hg4
      have f0 := R4.frozen 0
      have f1 := R4.frozen 1
      have b0 := R4.cell 0
      have b1 := R4.cell 1
      simp at b0 b1
      have RS := Lib.hid (SOF.store R4 (us := [.int .i64 k.p, .slice B1 n1 c1]) rfl o8 (fun hx => by have := l8 _ hx; omega))
      have GS := Lib.hid (gb_chg (gbT GW.out hg4) (chg_setCells (w0.heap.size + 1) [.int .i64 k.p, .slice B1 n1 c1] 0 w4) (by omega))
      (try simp [depsC, dstAt, kAt, bindE, List.filter_cons, bd_data, bd_chain, bd_guard, bd_phase, bd_text, bd_gc] at hd)
      simp [puts, dsts, Act.put, hd, e8]
      clear hd R4
      go_wp2_with fail
      exact ⟨rfl, .bool false, F, RS.out, fun x hx => by have := l8 x hx; omega, GS.out⟩
  intro f w9 hI hd
  simp only [puts, dsts, Act.put, List.filterMap_cons, List.filterMap_nil, List.setIfInBounds_toArray, List.set_cons_zero, List.set_cons_succ]
  obtain ⟨F, hS, hl, hG⟩ := hI
  obtain ⟨vs, hB, hA⟩ := hS.agg
  have HA := Lib.hid hA
  have HL := Lib.hid hl
  have HG := Lib.hid hG
  clear hd hS hA hl hG d0 d1
  go_wp2_with fail
  refine ret_c Try.results81 (by rfl) stKeys (cs := vs.toArray) hB (by rw [List.size_toArray]; exact agg_len HA.out) (by rfl) ?_
  exact ⟨_, rfl, ⟨F, HA.out, HL.out⟩, HG.out⟩
set_option maxHeartbeats 2000000 in
set_option maxRecDepth 100000 in
theorem specl28Arith_c (m : AM) (v : Value) (w0 : World) (h : AggR w0 (carith m) v) (wm : amwf m) :
    Calls Try.prog 82 #[v] w0 fun e w' => ∃ v, e = .returned v ∧ aggF w0.heap.size (carith m) v w' ∧ w0.grownBy w' none := by
  obtain ⟨u1, u2, rfl, h1, h2⟩ := carith_open h
  obtain ⟨A, c, rfl, hc, hm, hF⟩ := plst_rd (s := 3) (fun _ => rfl) (by omega) h1
  obtain ⟨B, d, rfl, hd1, hm2, hJ⟩ := cints_rd h2
  obtain ⟨w1, hw1⟩ : ∃ x : World, ((w0.alloc (.cells #[.int .i64 m.p, .slice A m.st.length c, .slice B m.outs.length d] 29)).alloc (.cells #[.int .i64 0, .slice none 0 0, .slice none 0 0] 29)) = x := ⟨_, rfl⟩
  have GW : Hid (w0.grownBy w1 none) := by rw [← hw1]; exact gbA (gbA (gbR _ _) _) _
  have z1 : Hid (w1.heap.size = w0.heap.size + 2) := by rw [← hw1]; exact Lib.hid (by simp)
  have D1 : Hid (Blk w1 w0.heap.size 29 #[.int .i64 m.p, .slice A m.st.length c, .slice B m.outs.length d]) := by rw [← hw1]; exact (Blk.new w0 _ _).grow (gbA (gbR _ _) _)
  have D3 : Hid (Blk w1 (w0.heap.size + 1) 29 #[.int .i64 0, .slice none 0 0, .slice none 0 0]) := by rw [← hw1]; exact Blk.new' _ _ _ _ (by simp)
  have IF := Lib.hid (FL.grow hF GW.out)
  have IJ := Lib.hid (hJ.grow GW.out)
  have WM := Lib.hid wm
  clear h h1 h2 hF hJ wm
  go_enter Try.func82, Try.ntmps82
  go_wp2_with fail
  clear hw1
  have hlz : w0.heap.size + 2 ≤ w1.heap.size := by have := z1.out; omega
  have d0 := D1.out.cell 0
  have d1 := D1.out.cell 1
  have d2 := D1.out.cell 2
  simp at d0 d1 d2
  refine region_chain [.rd (.pointer (some ⟨w0.heap.size, 0, none⟩)), .rd (.int .i64 m.p), .fl (emptyT (w0.heap.size + 2) 95 3), .rd (.pointer (some ⟨w0.heap.size, 1, none⟩)), .rd (.slice A m.st.length c), .ch, .fl (emptyT (w0.heap.size + 2) 3 1), .rd (.pointer (some ⟨w0.heap.size, 2, none⟩)), .rd (.slice B m.outs.length d), .ch, .ch, .ch] (fun _ => False)
    [⟨[], fun _ w' => w1.drew.grownBy w' none⟩,
     ⟨[8], fun l w' => ownF (w0.heap.size + 2) (csteps m.st) (l.getD 0 undef) w'⟩,
     ⟨[8, 12], fun l w' => ownL (w0.heap.size + 2) [csteps m.st, cints m.outs] [l.getD 0 undef, l.getD 1 undef] w'⟩,
     ⟨[13], fun l w' => aggF (w0.heap.size + 2) (carith m) (l.getD 0 undef) w'⟩,
     ⟨[], fun _ w' => ∃ F, SOF 29 (carith m) (w0.heap.size + 1) F w' ∧ (∀ x ∈ F, w0.heap.size ≤ x) ∧ w0.grownBy w' none⟩]
    (by kernel_rfl) (by kernel_rfl) (by kernel_rfl) 4 (by kernel_rfl) ?_ (gbR _ _) rfl ?_ ?_
  · have hst : stablesF [⟨[], fun _ w' => w1.drew.grownBy w' none⟩, ⟨[8], fun l w' => ownF (w0.heap.size + 2) (csteps m.st) (l.getD 0 undef) w'⟩, ⟨[8, 12], fun l w' => ownL (w0.heap.size + 2) [csteps m.st, cints m.outs] [l.getD 0 undef, l.getD 1 undef] w'⟩, ⟨[13], fun l w' => aggF (w0.heap.size + 2) (carith m) (l.getD 0 undef) w'⟩, ⟨[], fun _ w' => ∃ F, SOF 29 (carith m) (w0.heap.size + 1) F w' ∧ (∀ x ∈ F, w0.heap.size ≤ x) ∧ w0.grownBy w' none⟩] := by
      refine stF_cons (fun l w1 w2 h hg => gbT h hg) ?_
      refine stF_cons (chain_st fun l w1 w2 h hg => ownF.grow h hg) ?_
      refine stF_cons (chain_st fun l w1 w2 h hg => ownL.grow h hg) ?_
      refine stF_cons (chain_st fun l w1 w2 h hg => aggF.grow h hg) ?_
      exact stF_cons (chain_st fun l w1 w2 ⟨F, h1, h2, h3⟩ hg => ⟨F, h1.grow hg, h2, gbT h3 hg⟩) stF_nil
    simp only [flOk, true_and, and_true]
    exact ⟨⟨emptyT_st, hst⟩, ⟨emptyT_st, hst⟩⟩
  · simp only [hopsK, hopK, Kd.next, and_true]
    refine ⟨?_, ?_, ?_, ?_, ?_, ?_, ?_, ?_, ?_, ?_, ?_, ?_⟩
    · intro f w4 hG hd
      have hg4 := gbT (gbD (gbR w1 none)) (chgF hG)
      (try simp [depsC, dstAt, kAt, bindE, List.filter_cons, bd_data, bd_chain, bd_guard, bd_phase, bd_text, bd_gc] at hd)
      (first | simp [puts, dsts, Act.put, hd] | simp [puts, dsts, Act.put])
      clear hd
      go_wp2_with fail
      exact ⟨rfl, rfl⟩
    · intro f w4 hG hd
      have hg4 := gbT (gbD (gbR w1 none)) (chgF hG)
      have k0 := gbk hg4 (d0)
      (try simp [depsC, dstAt, kAt, bindE, List.filter_cons, bd_data, bd_chain, bd_guard, bd_phase, bd_text, bd_gc] at hd)
      (first | simp [puts, dsts, Act.put, hd] | simp [puts, dsts, Act.put])
      clear hd
      go_wp2_with fail
      exact ⟨rfl, rfl⟩
    · intro f w4 hG hd
      have hg4 := gbT (gbD (gbR w1 none)) (chgF hG)
      have hz4 := hg4.size
      clear hd
      simp [puts, dsts, Act.put]
      go_wp2_with fail
      exact ⟨_, rfl, ⟨w4.heap.size, rfl, by omega, World.ownsRow_made w4 #[] 0 (Nat.zero_le _) (by simp) rfl⟩, gbA (gbR _ _) _⟩
    · intro f w4 hG hd
      have hg4 := gbT (gbD (gbR w1 none)) (chgF hG)
      (try simp [depsC, dstAt, kAt, bindE, List.filter_cons, bd_data, bd_chain, bd_guard, bd_phase, bd_text, bd_gc] at hd)
      (first | simp [puts, dsts, Act.put, hd] | simp [puts, dsts, Act.put])
      clear hd
      go_wp2_with fail
      exact ⟨rfl, rfl⟩
    · intro f w4 hG hd
      have hg4 := gbT (gbD (gbR w1 none)) (chgF hG)
      have k1 := gbk hg4 (d1)
      (try simp [depsC, dstAt, kAt, bindE, List.filter_cons, bd_data, bd_chain, bd_guard, bd_phase, bd_text, bd_gc] at hd)
      (first | simp [puts, dsts, Act.put, hd] | simp [puts, dsts, Act.put])
      clear hd
      go_wp2_with fail
      exact ⟨rfl, rfl⟩
    · intro f w4 hG hI hd
      have hg4 := gbT (gbD (gbR w1 none)) (chgF hG)
      have hz4 := hg4.size
      have I4 := Lib.hid (FL.grow IF.out hg4)
      (try simp [depsC, dstAt, kAt, bindE, List.filter_cons, bd_data, bd_chain, bd_guard, bd_phase, bd_text, bd_gc] at hd)
      obtain ⟨⟨g3, e3, hg3, O3⟩, e7⟩ := hd
      simp [puts, dsts, Act.put, e3, e7]
      go_wp2_with (at_builtin; refine wp_appendF w4 elStep rfl (.tmp 5) (.tmp 7) rfl g3 O3 rfl A m.st.length c _ rfl I4.out.rd (fun u hu => by obtain ⟨x, _, hx⟩ := List.mem_flatMap.1 hu; exact c3_one x u hx) (by have := WM.out.st; unfold maxLen; omega) (by have := WM.out.st; omega) ?_; intro v6 w6 o6 g6 n6)
      have O6 : Hid (ownF (w0.heap.size + 2) (csteps m.st) v6 w6) := Lib.hid ⟨_, plst_own (s := 3) (fun _ => rfl) (by omega) c3_one o6, fun x hx => by
        rcases n6 x (by simpa using hx) with h6 | h6
        · omega
        · have := h6.1; omega⟩
      have G6 := Lib.hid g6
      clear o6 g6 n6
      exact ⟨_, rfl, O6.out, ⟨Chg.of G6.out (by simp), by simp [keepsC, dstAt]; exact ⟨fun h => emptyT_st _ _ _ h G6.out, fun h => emptyT_st _ _ _ h G6.out⟩⟩⟩
    · intro f w4 hG hd
      have hg4 := gbT (gbD (gbR w1 none)) (chgF hG)
      have hz4 := hg4.size
      clear hd
      simp [puts, dsts, Act.put]
      go_wp2_with fail
      exact ⟨_, rfl, ⟨w4.heap.size, rfl, by omega, World.ownsRow_made w4 #[] 0 (Nat.zero_le _) (by simp) rfl⟩, gbA (gbR _ _) _⟩
    · intro f w4 hG hd
      have hg4 := gbT (gbD (gbR w1 none)) (chgF hG)
      (try simp [depsC, dstAt, kAt, bindE, List.filter_cons, bd_data, bd_chain, bd_guard, bd_phase, bd_text, bd_gc] at hd)
      (first | simp [puts, dsts, Act.put, hd] | simp [puts, dsts, Act.put])
      clear hd
      go_wp2_with fail
      exact ⟨rfl, rfl⟩
    · intro f w4 hG hd
      have hg4 := gbT (gbD (gbR w1 none)) (chgF hG)
      have k2 := gbk hg4 (d2)
      (try simp [depsC, dstAt, kAt, bindE, List.filter_cons, bd_data, bd_chain, bd_guard, bd_phase, bd_text, bd_gc] at hd)
      (first | simp [puts, dsts, Act.put, hd] | simp [puts, dsts, Act.put])
      clear hd
      go_wp2_with fail
      exact ⟨rfl, rfl⟩
    · intro f w4 hG hI hd
      have hg4 := gbT (gbD (gbR w1 none)) (chgF hG)
      have hz4 := hg4.size
      have H8 : Hid (ownF (w0.heap.size + 2) (csteps m.st) (f 8) w4) := hI
      clear hI
      have I4 := Lib.hid (IJ.out.grow hg4)
      (try simp [depsC, dstAt, kAt, bindE, List.filter_cons, bd_data, bd_chain, bd_guard, bd_phase, bd_text, bd_gc] at hd)
      obtain ⟨⟨g3, e3, hg3, O3⟩, e7⟩ := hd
      simp [puts, dsts, Act.put, e3, e7]
      go_wp2_with (at_builtin; refine wp_appendF w4 el_int rfl (.tmp 9) (.tmp 11) rfl g3 O3 rfl B m.outs.length d _ rfl I4.out (by simp [Value.oneCell']) (by have := WM.out.outs; unfold maxLen; omega) (by have := WM.out.outs; omega) ?_; intro v6 w6 o6 g6 n6)
      have o7 : ownF (w0.heap.size + 2) (cints m.outs) v6 w6 := ownF.ints (lo := w0.heap.size + 2) (own_rebase o6 (fun g hg => (n6 g hg).elim (fun h => by omega) (fun h => by have := h.1; omega)))
      have O6 := Lib.hid (ownL_typ2 (H8.out.grow g6) o7)
      have G6 := Lib.hid g6
      clear o6 g6 n6 o7
      exact ⟨_, rfl, O6.out, ⟨Chg.of G6.out (by simp), by simp [keepsC, dstAt]; exact ⟨fun h => emptyT_st _ _ _ h G6.out, fun h => emptyT_st _ _ _ h G6.out⟩⟩⟩
    · intro f w4 hG hI hd
      have hg4 := gbT (gbD (gbR w1 none)) (chgF hG)
      have hz4 := hg4.size
      have o7 : ownL (w0.heap.size + 2) [csteps m.st, cints m.outs] [f 8, f 12] w4 := hI
      obtain ⟨F9, o9, l9⟩ := (o7.pl (x := .int .i64 m.p) rfl).agg
      obtain ⟨A1, n1, s1, A2, n2, s2, e⟩ := carith_oform o9
      injection e with e
      injection e with e
      injection e with _ e
      injection e with e8 e
      injection e with e11 _
      rw [e8, e11] at o9
      (try simp [depsC, dstAt, kAt, bindE, List.filter_cons, bd_data, bd_chain, bd_guard, bd_phase, bd_text, bd_gc] at hd)
      simp [puts, dsts, Act.put, hd, e8, e11]
      clear hd
      go_wp2_with fail
      exact ⟨_, rfl, ⟨F9, o9, l9⟩, ⟨Chg.refl _ _, by simp [keepsC, dstAt]⟩⟩
    · intro f w4 hG hI hd
      have hg4 := gbT (gbD (gbR w1 none)) (chgF hG)
      have hz4 := hg4.size
      obtain ⟨F, o8, l8⟩ := hI
      have o8 : AggO w4 (carith m) F (f 13) := o8
      obtain ⟨A1, n1, s1, A2, n2, s2, e8⟩ := carith_oform o8
      rw [e8] at o8
      have R4 := D3.out.grow hg4
      have f0 := R4.frozen 0
      have f1 := R4.frozen 1
      have f2 := R4.frozen 2
      have b0 := R4.cell 0
      have b1 := R4.cell 1
      have b2 := R4.cell 2
      simp at b0 b1 b2
      have RS := Lib.hid (SOF.store R4 (us := [.int .i64 m.p, .slice A1 n1 s1, .slice A2 n2 s2]) rfl o8 (fun hx => by have := l8 _ hx; omega))
      have GS := Lib.hid (gb_chg (gbT GW.out hg4) (chg_setCells (w0.heap.size + 1) [.int .i64 m.p, .slice A1 n1 s1, .slice A2 n2 s2] 0 w4) (by omega))
      (try simp [depsC, dstAt, kAt, bindE, List.filter_cons, bd_data, bd_chain, bd_guard, bd_phase, bd_text, bd_gc] at hd)
      simp [puts, dsts, Act.put, hd, e8]
      clear hd R4
      go_wp2_with fail
      exact ⟨rfl, .bool false, F, RS.out, fun x hx => by have := l8 x hx; omega, GS.out⟩
  intro f w9 hI hd
  simp only [puts, dsts, Act.put, List.filterMap_cons, List.filterMap_nil, List.setIfInBounds_toArray, List.set_cons_zero, List.set_cons_succ]
  obtain ⟨F, hS, hl, hG⟩ := hI
  obtain ⟨vs, hB, hA⟩ := hS.agg
  have HA := Lib.hid hA
  have HL := Lib.hid hl
  have HG := Lib.hid hG
  clear hd hS hA hl hG d0 d1 d2
  go_wp2_with fail
  refine ret_c Try.results82 (by rfl) stArith (cs := vs.toArray) hB (by rw [List.size_toArray]; exact agg_len HA.out) (by rfl) ?_
  exact ⟨_, rfl, ⟨F, HA.out, HL.out⟩, HG.out⟩
end Go.Proofs.Ythaadgdeadbhkaa
/-
  EngineNew of the reference: where it gives nothing.
-/
namespace Go.Proofs.Ythaadgdeadbhkaa
open Go.RowKit
set_option linter.unusedVariables false
set_option linter.unusedSimpArgs false
end Go.Proofs.Ythaadgdeadbhkaa
