/-
  copyKeys, copyArith of the program.
-/
import Derived.Test.YthaadgdeadbhkaaMgFnRounds20
import Derived.Test.YthaadgdeadbhkaaMgFnRounds23
import Derived.Test.YthaadgdeadbhkaaMgFnRounds25
namespace Go.Proofs.Ythaadgdeadbhkaa
open Go.RowKit
set_option linter.unusedVariables false
set_option linter.unusedSimpArgs false
set_option maxHeartbeats 2000000 in
set_option maxRecDepth 100000 in
theorem implcopyKeys_c (k : KM) (kv : Value) (w0 : World) (h : AggR w0 (ckeys k) kv) (wk : kwf k) :
    Calls Try.prog 51 #[kv] w0 fun e w' => ∃ v, e = .returned v ∧ aggF w0.heap.size (ckeys k) v w' ∧ w0.grownBy w' none := by
  obtain ⟨A, c, rfl, hc, hm, hI⟩ := ckeys_sl h
  obtain ⟨w1, hw1⟩ : ∃ x : World, ((w0.alloc (.cells #[.int .i64 k.p, .slice A k.al.length c] 26)).alloc (.cells #[.int .i64 0, .slice none 0 0] 26)) = x := ⟨_, rfl⟩
  have GW : Hid (w0.grownBy w1 none) := by rw [← hw1]; exact gbA (gbA (gbR _ _) _) _
  have z1 : Hid (w1.heap.size = w0.heap.size + 2) := by rw [← hw1]; exact Lib.hid (by simp)
  have D1 : Hid (Blk w1 w0.heap.size 26 #[.int .i64 k.p, .slice A k.al.length c]) := by rw [← hw1]; exact (Blk.new w0 _ _).grow (gbA (gbR _ _) _)
  have D3 : Hid (Blk w1 (w0.heap.size + 1) 26 #[.int .i64 0, .slice none 0 0]) := by rw [← hw1]; exact Blk.new' _ _ _ _ (by simp)
  have IS := Lib.hid (hI.grow GW.out)
  have WK := Lib.hid wk.2
  clear h hI wk
  go_enter Try.func51, Try.ntmps51
  go_wp2_with fail
  clear hw1
  have hlz : w0.heap.size + 2 ≤ w1.heap.size := by have := z1.out; omega
  have d0 := D1.out.cell 0
  have d1 := D1.out.cell 1
  simp at d0 d1
  refine region_chain [.rd (.pointer (some ⟨w0.heap.size, 0, none⟩)), .rd (.int .i64 k.p), .rd (.pointer (some ⟨w0.heap.size, 1, none⟩)), .rd (.slice A k.al.length c), .ch, .ch, .ch] (fun _ => False)
    [⟨[], fun _ w' => w1.drew.grownBy w' none⟩,
     ⟨[7], fun l w' => ownF (w0.heap.size + 2) (cints k.al) (l.getD 0 undef) w'⟩,
     ⟨[8], fun l w' => aggF (w0.heap.size + 2) (ckeys k) (l.getD 0 undef) w'⟩,
     ⟨[], fun _ w' => ∃ F, SOF 26 (ckeys k) (w0.heap.size + 1) F w' ∧ (∀ x ∈ F, w0.heap.size ≤ x) ∧ w0.grownBy w' none⟩]
    (by kernel_rfl) (by kernel_rfl) (by kernel_rfl) 3 (by kernel_rfl) (by simp only [flOk, and_true]) (gbR _ _) rfl ?_ ?_
  · simp only [hopsK, hopK, Kd.next, and_true]
    refine ⟨?_, ?_, ?_, ?_, ?_, ?_, ?_⟩
    · intro f w4 hG hd
      have hg4 := gbT (gbD (gbR w1 none)) (chgF hG)
      (try simp [depsC, dstAt, kAt, bindE, List.filter_cons, bd_data, bd_chain, bd_guard, bd_phase, bd_text, bd_gc] at hd)
      (first | simp [puts, dsts, Act.put, hd] | simp [puts, dsts, Act.put])
      clear hd
      go_wp2_with fail
      exact ⟨rfl, rfl⟩
    · intro f w4 hG hd
      have hg4 := gbT (gbD (gbR w1 none)) (chgF hG)
      have k0 := gbk hg4 (d0)
      (try simp [depsC, dstAt, kAt, bindE, List.filter_cons, bd_data, bd_chain, bd_guard, bd_phase, bd_text, bd_gc] at hd)
      (first | simp [puts, dsts, Act.put, hd] | simp [puts, dsts, Act.put])
      clear hd
      go_wp2_with fail
      exact ⟨rfl, rfl⟩
    · intro f w4 hG hd
      have hg4 := gbT (gbD (gbR w1 none)) (chgF hG)
      (try simp [depsC, dstAt, kAt, bindE, List.filter_cons, bd_data, bd_chain, bd_guard, bd_phase, bd_text, bd_gc] at hd)
      (first | simp [puts, dsts, Act.put, hd] | simp [puts, dsts, Act.put])
      clear hd
      go_wp2_with fail
      exact ⟨rfl, rfl⟩
    · intro f w4 hG hd
      have hg4 := gbT (gbD (gbR w1 none)) (chgF hG)
      have k1 := gbk hg4 (d1)
      (try simp [depsC, dstAt, kAt, bindE, List.filter_cons, bd_data, bd_chain, bd_guard, bd_phase, bd_text, bd_gc] at hd)
      (first | simp [puts, dsts, Act.put, hd] | simp [puts, dsts, Act.put])
      clear hd
      go_wp2_with fail
      exact ⟨rfl, rfl⟩
    · intro f w4 hG hI hd
      have hg4 := gbT (gbD (gbR w1 none)) (chgF hG)
      have hz4 := hg4.size
      (try simp [depsC, dstAt, kAt, bindE, List.filter_cons, bd_data, bd_chain, bd_guard, bd_phase, bd_text, bd_gc] at hd)
      (first | simp [puts, dsts, Act.put, hd] | simp [puts, dsts, Act.put])
      clear hd
      go_wp2_with fail
      refine (ints_c A k.al.length c k.al w4 (IS.out.grow hg4) (by have := WK.out; omega)).mono ?_
      rintro e w6 ⟨v6, rfl, o6, g6⟩
      have O6 := Lib.hid (ownF.ints (own_base o6 (show w0.heap.size + 2 ≤ w4.heap.size by omega)))
      have G6 := Lib.hid g6
      clear o6 g6
      go_wp2_with fail
      exact ⟨_, rfl, O6.out, ⟨Chg.of G6.out (by simp), by simp [keepsC]⟩⟩
    · intro f w4 hG hI hd
      have hg4 := gbT (gbD (gbR w1 none)) (chgF hG)
      have hz4 := hg4.size
      obtain ⟨F, o7, l7⟩ := hI
      have o7 : (cints k.al).own w4 F (f 7) := o7
      obtain ⟨B1, n1, c1, e7⟩ := row_form o7
      rw [e7] at o7
      (try simp [depsC, dstAt, kAt, bindE, List.filter_cons, bd_data, bd_chain, bd_guard, bd_phase, bd_text, bd_gc] at hd)
      simp [puts, dsts, Act.put, hd, e7]
      clear hd
      go_wp2_with fail
      exact ⟨_, rfl, ⟨_, ckeys_omk o7, fun x hx => l7 x (by simpa using hx)⟩, ⟨Chg.refl _ _, by simp [keepsC]⟩⟩
    · intro f w4 hG hI hd
      have hg4 := gbT (gbD (gbR w1 none)) (chgF hG)
      have hz4 := hg4.size
      obtain ⟨F, o8, l8⟩ := hI
      have o8 : AggO w4 (ckeys k) F (f 8) := o8
      obtain ⟨B1, n1, c1, e8⟩ := ckeys_oform o8
      rw [e8] at o8
      have R4 := D3.out.grow hg4
      have f0 := R4.frozen 0
      have f1 := R4.frozen 1
      have b0 := R4.cell 0
      have b1 := R4.cell 1
      simp at b0 b1
      have RS := Lib.hid (SOF.store R4 (us := [.int .i64 k.p, .slice B1 n1 c1]) rfl o8 (fun hx => by have := l8 _ hx; omega))
      have GS := Lib.hid (gb_chg (gbT GW.out hg4) (chg_setCells (w0.heap.size + 1) [.int .i64 k.p, .slice B1 n1 c1] 0 w4) (by omega))
      (try simp [depsC, dstAt, kAt, bindE, List.filter_cons, bd_data, bd_chain, bd_guard, bd_phase, bd_text, bd_gc] at hd)
      simp [puts, dsts, Act.put, hd, e8]
      clear hd R4
      go_wp2_with fail
      exact ⟨rfl, .bool false, F, RS.out, fun x hx => by have := l8 x hx; omega, GS.out⟩
  intro f w9 hI hd
  simp only [puts, dsts, Act.put, List.filterMap_cons, List.filterMap_nil, List.setIfInBounds_toArray, List.set_cons_zero, List.set_cons_succ]
  obtain ⟨F, hS, hl, hG⟩ := hI
  obtain ⟨vs, hB, hA⟩ := hS.agg
  have HA := Lib.hid hA
  have HL := Lib.hid hl
  have HG := Lib.hid hG
  clear hd hS hA hl hG d0 d1
  go_wp2_with fail
  refine ret_c Try.results51 (by rfl) stKeys (cs := vs.toArray) hB (by rw [List.size_toArray]; exact agg_len HA.out) (by rfl) ?_
  exact ⟨_, rfl, ⟨F, HA.out, HL.out⟩, HG.out⟩
end Go.Proofs.Ythaadgdeadbhkaa
/-
  copyArith of the program.
-/
namespace Go.Proofs.Ythaadgdeadbhkaa
open Go.RowKit
set_option linter.unusedVariables false
set_option linter.unusedSimpArgs false
structure amwf (m : AM) : Prop where
  wf : m.wf
  st : m.st.length ≤ 1048576
  outs : m.outs.length ≤ 1048576
set_option maxHeartbeats 2000000 in
set_option maxRecDepth 100000 in
theorem implcopyArith_c (m : AM) (v : Value) (w0 : World) (h : AggR w0 (carith m) v) (wm : amwf m) :
    Calls Try.prog 52 #[v] w0 fun e w' => ∃ v, e = .returned v ∧ aggF w0.heap.size (carith m) v w' ∧ w0.grownBy w' none := by
  obtain ⟨u1, u2, rfl, h1, h2⟩ := carith_open h
  obtain ⟨A, c, rfl, hc, hm, hF⟩ := plst_rd (s := 3) (fun _ => rfl) (by omega) h1
  obtain ⟨B, d, rfl, hd1, hm2, hJ⟩ := cints_rd h2
  obtain ⟨w1, hw1⟩ : ∃ x : World, ((w0.alloc (.cells #[.int .i64 m.p, .slice A m.st.length c, .slice B m.outs.length d] 29)).alloc (.cells #[.int .i64 0, .slice none 0 0, .slice none 0 0] 29)) = x := ⟨_, rfl⟩
  have GW : Hid (w0.grownBy w1 none) := by rw [← hw1]; exact gbA (gbA (gbR _ _) _) _
  have z1 : Hid (w1.heap.size = w0.heap.size + 2) := by rw [← hw1]; exact Lib.hid (by simp)
  have D1 : Hid (Blk w1 w0.heap.size 29 #[.int .i64 m.p, .slice A m.st.length c, .slice B m.outs.length d]) := by rw [← hw1]; exact (Blk.new w0 _ _).grow (gbA (gbR _ _) _)
  have D3 : Hid (Blk w1 (w0.heap.size + 1) 29 #[.int .i64 0, .slice none 0 0, .slice none 0 0]) := by rw [← hw1]; exact Blk.new' _ _ _ _ (by simp)
  have IF := Lib.hid (FL.grow hF GW.out)
  have IJ := Lib.hid (hJ.grow GW.out)
  have WM := Lib.hid wm
  clear h h1 h2 hF hJ wm
  go_enter Try.func52, Try.ntmps52
  go_wp2_with fail
  clear hw1
  have hlz : w0.heap.size + 2 ≤ w1.heap.size := by have := z1.out; omega
  have d0 := D1.out.cell 0
  have d1 := D1.out.cell 1
  have d2 := D1.out.cell 2
  simp at d0 d1 d2
  refine region_chain [.rd (.pointer (some ⟨w0.heap.size, 0, none⟩)), .rd (.int .i64 m.p), .ch, .rd (.pointer (some ⟨w0.heap.size, 1, none⟩)), .rd (.slice A m.st.length c), .ch, .rd (.pointer (some ⟨w0.heap.size, 2, none⟩)), .rd (.slice B m.outs.length d), .ch, .ch, .ch] (fun _ => False)
    [⟨[], fun _ w' => w1.drew.grownBy w' none⟩,
     ⟨[5], fun l w' => ∃ g, l.getD 0 undef = .slice (some ⟨g, 0, none⟩) 0 0 ∧ w'.ownsRow 0 95 3 (.slice (some ⟨g, 0, none⟩) 0 0) 0 [] ∧ w1.heap.size ≤ g⟩,
     ⟨[8], fun l w' => ownF (w0.heap.size + 2) (csteps m.st) (l.getD 0 undef) w'⟩,
     ⟨[8, 11], fun l w' => ownL (w0.heap.size + 2) [csteps m.st, cints m.outs] [l.getD 0 undef, l.getD 1 undef] w'⟩,
     ⟨[12], fun l w' => aggF (w0.heap.size + 2) (carith m) (l.getD 0 undef) w'⟩,
     ⟨[], fun _ w' => ∃ F, SOF 29 (carith m) (w0.heap.size + 1) F w' ∧ (∀ x ∈ F, w0.heap.size ≤ x) ∧ w0.grownBy w' none⟩]
    (by kernel_rfl) (by kernel_rfl) (by kernel_rfl) 5 (by kernel_rfl) (by simp only [flOk, and_true]) (gbR _ _) rfl ?_ ?_
  · simp only [hopsK, hopK, Kd.next, and_true]
    refine ⟨?_, ?_, ?_, ?_, ?_, ?_, ?_, ?_, ?_, ?_, ?_⟩
    · intro f w4 hG hd
      have hg4 := gbT (gbD (gbR w1 none)) (chgF hG)
      (try simp [depsC, dstAt, kAt, bindE, List.filter_cons, bd_data, bd_chain, bd_guard, bd_phase, bd_text, bd_gc] at hd)
      (first | simp [puts, dsts, Act.put, hd] | simp [puts, dsts, Act.put])
      clear hd
      go_wp2_with fail
      exact ⟨rfl, rfl⟩
    · intro f w4 hG hd
      have hg4 := gbT (gbD (gbR w1 none)) (chgF hG)
      have k0 := gbk hg4 (d0)
      (try simp [depsC, dstAt, kAt, bindE, List.filter_cons, bd_data, bd_chain, bd_guard, bd_phase, bd_text, bd_gc] at hd)
      (first | simp [puts, dsts, Act.put, hd] | simp [puts, dsts, Act.put])
      clear hd
      go_wp2_with fail
      exact ⟨rfl, rfl⟩
    · intro f w4 hG hI hd
      have hg4 := gbT (gbD (gbR w1 none)) (chgF hG)
      have hz4 := hg4.size
      clear hd
      simp [puts, dsts, Act.put]
      go_wp2_with fail
      exact ⟨_, rfl, ⟨_, rfl, World.ownsRow_made w4 #[] 0 (Nat.zero_le _) (by simp) rfl, hg4.size⟩, ⟨Chg.of (gbA (gbR _ none) _) (by simp), by simp [keepsC]⟩⟩
    · intro f w4 hG hd
      have hg4 := gbT (gbD (gbR w1 none)) (chgF hG)
      (try simp [depsC, dstAt, kAt, bindE, List.filter_cons, bd_data, bd_chain, bd_guard, bd_phase, bd_text, bd_gc] at hd)
      (first | simp [puts, dsts, Act.put, hd] | simp [puts, dsts, Act.put])
      clear hd
      go_wp2_with fail
      exact ⟨rfl, rfl⟩
    · intro f w4 hG hd
      have hg4 := gbT (gbD (gbR w1 none)) (chgF hG)
      have k1 := gbk hg4 (d1)
      (try simp [depsC, dstAt, kAt, bindE, List.filter_cons, bd_data, bd_chain, bd_guard, bd_phase, bd_text, bd_gc] at hd)
      (first | simp [puts, dsts, Act.put, hd] | simp [puts, dsts, Act.put])
      clear hd
      go_wp2_with fail
      exact ⟨rfl, rfl⟩
    · intro f w4 hG hI hd
      have hg4 := gbT (gbD (gbR w1 none)) (chgF hG)
      have hz4 := hg4.size
      obtain ⟨g, e5, o5, l5⟩ := hI
      have e5 : f 5 = .slice (some ⟨g, 0, none⟩) 0 0 := e5
      (try simp [depsC, dstAt, kAt, bindE, List.filter_cons, bd_data, bd_chain, bd_guard, bd_phase, bd_text, bd_gc] at hd)
      simp [puts, dsts, Act.put, hd, e5]
      clear hd
      go_wp2_with (at_builtin; refine wp_appendE w4 elStep rfl (.tmp 5) (.tmp 7) rfl g o5 rfl A m.st.length c _ rfl (FL.grow IF.out hg4).rd (fun u hu => by obtain ⟨x, _, hx⟩ := List.mem_flatMap.1 hu; exact c3_one x u hx) (by have := WM.out.st; unfold maxLen; omega) (by have := WM.out.st; omega) ?_; intro v6 w6 o6 g6 n6)
      have O6 : Hid (ownF (w0.heap.size + 2) (csteps m.st) v6 w6) := Lib.hid ⟨_, plst_own (s := 3) (fun _ => rfl) (by omega) c3_one o6, fun x hx => by rcases n6 x (by simpa using hx) with h6 | h6 <;> omega⟩
      exact ⟨_, rfl, O6.out, ⟨Chg.of g6 (by simp), by simp [keepsC]⟩⟩
    · intro f w4 hG hd
      have hg4 := gbT (gbD (gbR w1 none)) (chgF hG)
      (try simp [depsC, dstAt, kAt, bindE, List.filter_cons, bd_data, bd_chain, bd_guard, bd_phase, bd_text, bd_gc] at hd)
      (first | simp [puts, dsts, Act.put, hd] | simp [puts, dsts, Act.put])
      clear hd
      go_wp2_with fail
      exact ⟨rfl, rfl⟩
    · intro f w4 hG hd
      have hg4 := gbT (gbD (gbR w1 none)) (chgF hG)
      have k2 := gbk hg4 (d2)
      (try simp [depsC, dstAt, kAt, bindE, List.filter_cons, bd_data, bd_chain, bd_guard, bd_phase, bd_text, bd_gc] at hd)
      (first | simp [puts, dsts, Act.put, hd] | simp [puts, dsts, Act.put])
      clear hd
      go_wp2_with fail
      exact ⟨rfl, rfl⟩
    · intro f w4 hG hI hd
      have hg4 := gbT (gbD (gbR w1 none)) (chgF hG)
      have hz4 := hg4.size
      have H8 : Hid (ownF (w0.heap.size + 2) (csteps m.st) (f 8) w4) := hI
      clear hI
      (try simp [depsC, dstAt, kAt, bindE, List.filter_cons, bd_data, bd_chain, bd_guard, bd_phase, bd_text, bd_gc] at hd)
      (first | simp [puts, dsts, Act.put, hd] | simp [puts, dsts, Act.put])
      clear hd
      go_wp2_with fail
      refine (ints_c B m.outs.length d m.outs w4 (IJ.out.grow hg4) (by have := WM.out.outs; omega)).mono ?_
      rintro e w6 ⟨v6, rfl, o6, g6⟩
      have O6 := Lib.hid (H8.out.one.app g6 (ownF.ints (lo := w4.heap.size) o6).one (by omega))
      have G6 := Lib.hid g6
      clear o6 g6
      go_wp2_with fail
      exact ⟨_, rfl, O6.out, ⟨Chg.of G6.out (by simp), by simp [keepsC]⟩⟩
    · intro f w4 hG hI hd
      have hg4 := gbT (gbD (gbR w1 none)) (chgF hG)
      have hz4 := hg4.size
      have o7 : ownL (w0.heap.size + 2) [csteps m.st, cints m.outs] [f 8, f 11] w4 := hI
      obtain ⟨F9, o9, l9⟩ := (o7.pl (x := .int .i64 m.p) rfl).agg
      obtain ⟨A1, n1, s1, A2, n2, s2, e⟩ := carith_oform o9
      injection e with e
      injection e with e
      injection e with _ e
      injection e with e8 e
      injection e with e11 _
      rw [e8, e11] at o9
      (try simp [depsC, dstAt, kAt, bindE, List.filter_cons, bd_data, bd_chain, bd_guard, bd_phase, bd_text, bd_gc] at hd)
      simp [puts, dsts, Act.put, hd, e8, e11]
      clear hd
      go_wp2_with fail
      exact ⟨_, rfl, ⟨F9, o9, l9⟩, ⟨Chg.refl _ _, by simp [keepsC]⟩⟩
    · intro f w4 hG hI hd
      have hg4 := gbT (gbD (gbR w1 none)) (chgF hG)
      have hz4 := hg4.size
      obtain ⟨F, o8, l8⟩ := hI
      have o8 : AggO w4 (carith m) F (f 12) := o8
      obtain ⟨A1, n1, s1, A2, n2, s2, e8⟩ := carith_oform o8
      rw [e8] at o8
      have R4 := D3.out.grow hg4
      have f0 := R4.frozen 0
      have f1 := R4.frozen 1
      have f2 := R4.frozen 2
      have b0 := R4.cell 0
      have b1 := R4.cell 1
      have b2 := R4.cell 2
      simp at b0 b1 b2
      have RS := Lib.hid (SOF.store R4 (us := [.int .i64 m.p, .slice A1 n1 s1, .slice A2 n2 s2]) rfl o8 (fun hx => by have := l8 _ hx; omega))
      have GS := Lib.hid (gb_chg (gbT GW.out hg4) (chg_setCells (w0.heap.size + 1) [.int .i64 m.p, .slice A1 n1 s1, .slice A2 n2 s2] 0 w4) (by omega))
      (try simp [depsC, dstAt, kAt, bindE, List.filter_cons, bd_data, bd_chain, bd_guard, bd_phase, bd_text, bd_gc] at hd)
      simp [puts, dsts, Act.put, hd, e8]
      clear hd R4
      go_wp2_with fail
      exact ⟨rfl, .bool false, F, RS.out, fun x hx => by have := l8 x hx; omega, GS.out⟩
  intro f w9 hI hd
  simp only [puts, dsts, Act.put, List.filterMap_cons, List.filterMap_nil, List.setIfInBounds_toArray, List.set_cons_zero, List.set_cons_succ]
  obtain ⟨F, hS, hl, hG⟩ := hI
  obtain ⟨vs, hB, hA⟩ := hS.agg
  have HA := Lib.hid hA
  have HL := Lib.hid hl
  have HG := Lib.hid hG
  clear hd hS hA hl hG d0 d1 d2
  go_wp2_with fail
  refine ret_c Try.results52 (by rfl) stArith (cs := vs.toArray) hB (by rw [List.size_toArray]; exact agg_len HA.out) (by rfl) ?_
  exact ⟨_, rfl, ⟨F, HA.out, HL.out⟩, HG.out⟩
end Go.Proofs.Ythaadgdeadbhkaa
/-
  Authenticated values that are shares of a value: sums, products by constants, triples, openings. No program.
-/
namespace Go.Proofs.Ythaadgdeadbhkaa
set_option linter.unusedVariables false
set_option linter.unusedSimpArgs false
theorem em1 (p a : Int) : a % p % p = a % p := Int.emod_emod_of_dvd _ (Int.dvd_refl p)
theorem mm1 (p a b : Int) : (a % p * b) % p = (a * b) % p := by rw [Int.mul_emod, em1, ← Int.mul_emod]
theorem addS_sum (p : Int) : ∀ xs ys : List Int, xs.length = ys.length → fsum p (addS p xs ys) = (fsum p xs + fsum p ys) % p
  | [], [], _ => by simp [addS, fsum]
  | [], _ :: _, h => by simp at h
  | _ :: _, [], h => by simp at h
  | x :: xs, y :: ys, h => by
    have ih := addS_sum p xs ys (by simpa using h)
    unfold fsum addS at *
    simp only [List.zipWith_cons_cons, List.sum_cons]
    rw [Int.emod_add_emod, ← Int.add_emod_emod, ih, Int.add_emod_emod, Int.emod_add_emod, Int.add_emod_emod, ← Int.add_assoc, Int.add_emod_emod, ← Int.add_assoc]
    rw [show x + y + xs.sum % p + ys.sum = xs.sum % p + (x + y + ys.sum) by omega, Int.emod_add_emod]
    congr 1; omega
theorem sclS_sum (p k : Int) : ∀ xs : List Int, fsum p (sclS p xs k) = (fsum p xs * k) % p
  | [] => by simp [sclS, fsum]
  | x :: xs => by
    have ih := sclS_sum p k xs
    unfold fsum sclS at *
    simp only [List.map_cons, List.sum_cons]
    rw [Int.emod_add_emod, ← Int.add_emod_emod, ih, Int.add_emod_emod, mm1, ← Int.add_emod_emod, mm1, Int.add_emod_emod, Int.add_mul]
theorem cstS_sum (p k : Int) (xs : List Int) (h : 1 ≤ xs.length) : fsum p (cstS p xs k) = (fsum p xs + k) % p := by
  cases xs with
  | nil => simp at h
  | cons x xs =>
    unfold fsum cstS
    simp only [List.set_cons_zero, List.sum_cons, List.getD_cons_zero]
    rw [Int.emod_add_emod, Int.emod_add_emod]
    congr 1; omega
theorem md_iff {p a b : Int} : a % p = b % p ↔ ∃ k, a = b + p * k := by
  constructor
  · intro h
    refine ⟨a / p - b / p, ?_⟩
    have h1 := Int.mul_ediv_add_emod a p
    have h2 := Int.mul_ediv_add_emod b p
    rw [Int.mul_sub]
    omega
  · rintro ⟨k, rfl⟩
    rw [Int.add_mul_emod_self_left]
theorem md_ex (p a : Int) : ∃ k, a % p = a + p * k := ⟨-(a / p), by have := Int.mul_ediv_add_emod a p; rw [Int.mul_neg]; omega⟩
theorem use_eq (p A B a b c d e : Int) (hd : d = (A - a) % p) (he : e = (B - b) % p) (hc : c = (a * b) % p) : ((((c + (b * d) % p) % p + (a * e) % p) % p) + (d * e) % p) % p = (A * B) % p := by
  obtain ⟨k1, h1⟩ := md_ex p (A - a)
  obtain ⟨k2, h2⟩ := md_ex p (B - b)
  obtain ⟨k3, h3⟩ := md_ex p (a * b)
  simp only [Int.add_emod_emod, Int.emod_add_emod]
  rw [md_iff, hd, he, hc, h1, h2, h3]
  exact ⟨k3 + b * k1 + a * k2 + (A - a) * k2 + (B - b) * k1 + p * k1 * k2, by grind⟩
theorem mac_add (p u v x : Int) : ((u * x) % p + (v * x) % p) % p = ((u + v) % p * x) % p := by
  rw [mm1, Int.emod_add_emod, Int.add_emod_emod, Int.add_mul]
theorem mac_scale (p u x c : Int) : ((u * x) % p * c) % p = ((u * c) % p * x) % p := by
  rw [mm1, mm1, Int.mul_assoc, Int.mul_comm x c, ← Int.mul_assoc]
theorem mac_const (p u x c : Int) : ((u * x) % p + (x * c) % p) % p = ((u + c) % p * x) % p := by
  rw [Int.mul_comm x c, mac_add]
theorem open_eq (p u v x : Int) : ((u * x) % p + ((v * x) % p * (p - 1)) % p) % p = (((u - v) % p) * x) % p := by
  obtain ⟨k1, h1⟩ := md_ex p (u * x)
  obtain ⟨k2, h2⟩ := md_ex p (v * x)
  obtain ⟨k3, h3⟩ := md_ex p (u - v)
  simp only [Int.add_emod_emod, Int.emod_add_emod]
  rw [md_iff, h2, h3]
  exact ⟨v * x + k2 * (p - 1) - k3 * x, by grind⟩
def cancelB (n : Nat) : Bool := (List.range n).all fun e => (List.range n).all fun x => x == 0 || (e * x) % n != 0 || e == 0
theorem prime_cancel : ∀ n : Nat, n < 102 → fieldN n = true → cancelB n = true := by decide +kernel
theorem cancel_nat {n e x : Nat} (hn : n < 102) (hf : fieldN n = true) (he : e < n) (hx : x < n) (h0 : x ≠ 0) (h : (e * x) % n = 0) : e = 0 := by
  have h1 := prime_cancel n hn hf
  unfold cancelB at h1
  rw [List.all_eq_true] at h1
  have h2 := h1 e (List.mem_range.2 he)
  rw [List.all_eq_true] at h2
  have h3 := h2 x (List.mem_range.2 hx)
  simp [h0, h] at h3
  exact h3
theorem cancel_int {p e x : Int} (hf : fieldB p = true) (he : 0 ≤ e ∧ e < p) (hx : 0 ≤ x ∧ x < p) (h0 : x ≠ 0) (h : (e * x) % p = 0) : e = 0 := by
  obtain ⟨h2, h3⟩ := field_range hf
  obtain ⟨n, rfl⟩ := Int.eq_ofNat_of_zero_le (show 0 ≤ p by omega)
  obtain ⟨a, rfl⟩ := Int.eq_ofNat_of_zero_le he.1
  obtain ⟨b, rfl⟩ := Int.eq_ofNat_of_zero_le hx.1
  have h1 : (a * b) % n = 0 := by
    have : (((a * b) % n : Nat) : Int) = ((0 : Nat) : Int) := by rw [Int.natCast_emod, Int.natCast_mul]; exact h
    exact Int.ofNat.inj this
  rw [fieldB_nat n (by omega)] at hf
  have := cancel_nat (n := n) (e := a) (x := b) (by omega) hf (by omega) (by omega) (by omega) h1
  omega
structure Good (k : KM) (a : AuM) (v : Int) : Prop where
  form : formB k a = true
  sh : fsum k.p a.sh = v
  mc : fsum k.p a.mc = (v * fsum k.p k.al) % k.p
theorem form_mk {k : KM} {a : AuM} (h : keysB k = true) (h1 : a.sh.length = k.al.length) (h2 : a.mc.length = k.al.length) (h3 : elemsB k.p a.sh = true) (h4 : elemsB k.p a.mc = true) : formB k a = true := by
  unfold formB formA
  rw [h, h1, h2, h3, h4]
  simp
theorem Good.rng {k : KM} {a : AuM} {v : Int} (h : Good k a v) : 0 ≤ v ∧ v < k.p := by
  obtain ⟨hk, _⟩ := form_is h.form
  obtain ⟨hf, _⟩ := keys_is hk
  have := fsum_rng (field_range hf).1 a.sh
  rw [h.sh] at this
  exact this
theorem form_add {k : KM} {a b : AuM} (ha : formB k a = true) (hb : formB k b = true) : authAdd k a b = ⟨addS k.p a.sh b.sh, addS k.p a.mc b.mc⟩ ∧ formB k (authAdd k a b) = true := by
  obtain ⟨hk, a1, a2, a3, a4, a5, a6, a7⟩ := form_is ha
  obtain ⟨_, b1, b2, b3, b4, _⟩ := form_is hb
  obtain ⟨hf, _⟩ := keys_is hk
  have e : authAdd k a b = ⟨addS k.p a.sh b.sh, addS k.p a.mc b.mc⟩ := by unfold authAdd; rw [ha, hb]; rfl
  refine ⟨e, ?_⟩
  rw [e]
  exact form_mk hk (by rw [addS_len (by omega)]; exact a1) (by rw [addS_len (by omega)]; exact a2) (addS_elems hf) (addS_elems hf)
theorem Good.add {k : KM} {a b : AuM} {u v : Int} (ha : Good k a u) (hb : Good k b v) : Good k (authAdd k a b) ((u + v) % k.p) := by
  obtain ⟨hk, a1, a2, a3, a4, a5, a6, a7⟩ := form_is ha.form
  obtain ⟨_, b1, b2, b3, b4, _⟩ := form_is hb.form
  obtain ⟨e, f⟩ := form_add ha.form hb.form
  refine ⟨f, ?_, ?_⟩
  · rw [e, addS_sum _ _ _ (by omega), ha.sh, hb.sh]
  · rw [e, addS_sum _ _ _ (by omega), ha.mc, hb.mc, mac_add]
theorem form_scale {k : KM} {a : AuM} {c : Int} (ha : formB k a = true) (hc : elemB k.p c = true) : authScale k a c = ⟨sclS k.p a.sh c, sclS k.p a.mc c⟩ ∧ formB k (authScale k a c) = true := by
  obtain ⟨hk, a1, a2, a3, a4, a5, a6, a7⟩ := form_is ha
  have e : authScale k a c = ⟨sclS k.p a.sh c, sclS k.p a.mc c⟩ := by unfold authScale; rw [ha, hc]; rfl
  refine ⟨e, ?_⟩
  rw [e]
  exact form_mk hk (by rw [sclS_len]; exact a1) (by rw [sclS_len]; exact a2) (sclS_elems a3) (sclS_elems a4)
theorem Good.scale {k : KM} {a : AuM} {u c : Int} (ha : Good k a u) (hc : elemB k.p c = true) : Good k (authScale k a c) ((u * c) % k.p) := by
  obtain ⟨e, f⟩ := form_scale ha.form hc
  refine ⟨f, ?_, ?_⟩
  · rw [e, sclS_sum, ha.sh]
  · rw [e, sclS_sum, ha.mc, mac_scale]
theorem form_const {k : KM} {a : AuM} {c : Int} (ha : formB k a = true) (hc : elemB k.p c = true) : authConst k a c = ⟨cstS k.p a.sh c, addS k.p a.mc (sclS k.p k.al c)⟩ ∧ formB k (authConst k a c) = true := by
  obtain ⟨hk, a1, a2, a3, a4, a5, a6, a7⟩ := form_is ha
  obtain ⟨hf, _⟩ := keys_is hk
  have e : authConst k a c = ⟨cstS k.p a.sh c, addS k.p a.mc (sclS k.p k.al c)⟩ := by unfold authConst; rw [ha, hc]; rfl
  refine ⟨e, ?_⟩
  rw [e]
  exact form_mk hk (by rw [cstS_len]; exact a1) (by rw [addS_len (by rw [sclS_len]; omega)]; exact a2) (cstS_elems a3) (addS_elems hf)
theorem Good.const {k : KM} {a : AuM} {u c : Int} (ha : Good k a u) (hc : elemB k.p c = true) : Good k (authConst k a c) ((u + c) % k.p) := by
  obtain ⟨hk, a1, a2, a3, a4, a5, a6, a7⟩ := form_is ha.form
  obtain ⟨e, f⟩ := form_const ha.form hc
  refine ⟨f, ?_, ?_⟩
  · rw [e, cstS_sum _ _ _ (by omega), ha.sh]
  · rw [e, addS_sum _ _ _ (by rw [sclS_len]; omega), sclS_sum, ha.mc, mac_const]
theorem Good.new {k : KM} {P s a : Nat} {x : Int} (hk : keysB k = true) (hP : k.p = P) (hx : elemB k.p x = true) : Good k (authNew k P s a x) x := by
  obtain ⟨hf, he, n1, n5⟩ := keys_is hk
  obtain ⟨_, p2, p101, x0, x1⟩ := elemB_is hx
  have hT : ∀ a k', elemsB k.p (tapeL s a P k') = true := fun a k' => by rw [hP] at hf ⊢; exact elems_tape hf (by omega)
  have hl : ∀ (y : Int) (a : Nat), (shareL k.p y (tapeL s a P (k.al.length - 1))).length = k.al.length := fun y a => by rw [shareL_len, tapeL_len]; omega
  have hy : 0 ≤ (x * fsum k.p k.al) % k.p ∧ (x * fsum k.p k.al) % k.p < k.p := ⟨Int.emod_nonneg _ (by omega), Int.emod_lt_of_pos _ (by omega)⟩
  unfold authNew
  exact ⟨form_mk hk (hl _ _) (hl _ _) (shareL_elems (hT _ _)) (shareL_elems (hT _ _)), shareL_sum x0 x1, shareL_sum hy.1 hy.2⟩
theorem zero_sum (p : Int) (n : Nat) : fsum p (List.replicate n 0) = 0 := by
  have : (List.replicate n (0 : Int)).sum = 0 := by
    induction n with
    | zero => rfl
    | succ n ih => rw [List.replicate_succ, List.sum_cons, ih]; rfl
  unfold fsum
  rw [this, Int.zero_emod]
def zerosA (n : Nat) : AuM := ⟨List.replicate n 0, List.replicate n 0⟩
theorem Good.zeros {k : KM} (hk : keysB k = true) : Good k (zerosA k.al.length) 0 := by
  obtain ⟨hf, he, n1, n5⟩ := keys_is hk
  obtain ⟨p2, p101⟩ := field_range hf
  have hz : elemsB k.p (List.replicate k.al.length 0) = true := elemsB_mk hf fun z hz => by rw [List.eq_of_mem_replicate hz]; omega
  exact ⟨form_mk hk (by simp [zerosA]) (by simp [zerosA]) hz hz, zero_sum _ _, by rw [Int.zero_mul, Int.zero_emod]; exact zero_sum _ _⟩
theorem fsum_form {k : KM} {a : AuM} (h : formB k a = true) : elemB k.p (fsum k.p a.sh) = true := by
  obtain ⟨hk, _⟩ := form_is h
  exact fsum_elem (keys_is hk).1 _
theorem Good.elem {k : KM} {a : AuM} {v : Int} (h : Good k a v) : elemB k.p v = true := by rw [← h.sh]; exact fsum_form h.form
structure GoodT (k : KM) (x : TrM) (u v : Int) : Prop where
  a : Good k x.a u
  b : Good k x.b v
  c : Good k x.c ((u * v) % k.p)
theorem form_use {k : KM} {x : TrM} {d e : Int} (ha : formB k x.a = true) (hb : formB k x.b = true) (hc : formB k x.c = true) (hd : elemB k.p d = true) (he : elemB k.p e = true) :
    tripleUse k x d e = authConst k (authAdd k (authAdd k x.c (authScale k x.b d)) (authScale k x.a e)) ((d * e) % k.p) ∧ formB k (tripleUse k x d e) = true := by
  have hf := (elemB_is hd).1
  have e1 : tripleUse k x d e = authConst k (authAdd k (authAdd k x.c (authScale k x.b d)) (authScale k x.a e)) ((d * e) % k.p) := by unfold tripleUse; rw [ha, hb, hc, hd, he]; rfl
  refine ⟨e1, ?_⟩
  rw [e1]
  exact (form_const (form_add (form_add hc (form_scale hb hd).2).2 (form_scale ha he).2).2 (femod_elem hf _)).2
theorem GoodT.use {k : KM} {x : TrM} {u v A B d e : Int} (h : GoodT k x u v) (hA : 0 ≤ A ∧ A < k.p) (hB : 0 ≤ B ∧ B < k.p) (hd : d = (A - u) % k.p) (he : e = (B - v) % k.p) : Good k (tripleUse k x d e) ((A * B) % k.p) := by
  obtain ⟨hk, _⟩ := form_is h.a.form
  obtain ⟨hf, _⟩ := keys_is hk
  have hd1 : elemB k.p d = true := by rw [hd]; exact femod_elem hf _
  have he1 : elemB k.p e = true := by rw [he]; exact femod_elem hf _
  rw [(form_use h.a.form h.b.form h.c.form hd1 he1).1]
  have := ((h.c.add (h.b.scale hd1)).add (h.a.scale he1)).const (femod_elem hf (d * e))
  rw [use_eq k.p A B u v _ d e hd he rfl] at this
  exact this
theorem GoodT.new {k : KM} {P s a : Nat} (hk : keysB k = true) (hP : k.p = P) : GoodT k (tripleNew k P s a) (tnA s a P) (tnB s a P) := by
  obtain ⟨hf, _⟩ := keys_is hk
  obtain ⟨p2, p101⟩ := field_range hf
  have h1 : ∀ a, elemB k.p ((belN s a P : Nat) : Int) = true := fun a => elemB_mk hf (by omega) (by have := belN_lt (s := s) (a := a) (n := P) (by omega); omega)
  unfold tripleNew
  exact ⟨Good.new hk hP (h1 _), Good.new hk hP (h1 _), Good.new hk hP (femod_elem hf _)⟩
theorem Good.minus {k : KM} {a b : AuM} {u v : Int} (ha : Good k a u) (hb : Good k b v) (o : Int) (ho : elemB k.p o = true) :
    macCheck k o (minusA k a b) = ((((u - v) % k.p) * fsum k.p k.al) % k.p == (o * fsum k.p k.al) % k.p) := by
  obtain ⟨hk, _⟩ := form_is ha.form
  obtain ⟨hf, _⟩ := keys_is hk
  obtain ⟨p2, p101⟩ := field_range hf
  have hp : elemB k.p (k.p - 1) = true := elemB_mk hf (by omega) (by omega)
  obtain ⟨e1, f1⟩ := form_scale hb.form hp
  obtain ⟨e2, f2⟩ := form_add ha.form f1
  obtain ⟨_, _, a2, _, a4, _⟩ := form_is f2
  obtain ⟨_, c1, c2, _⟩ := form_is ha.form
  obtain ⟨_, d1, d2, _⟩ := form_is f1
  have hm : fsum k.p (minusA k a b).mc = (((u - v) % k.p) * fsum k.p k.al) % k.p := by
    unfold minusA
    rw [e2, addS_sum _ _ _ (by omega), e1, sclS_sum, ha.mc, hb.mc, open_eq]
  unfold macCheck
  rw [hk, ho, hm]
  unfold minusA
  rw [a2, a4]
  simp
theorem Good.check {k : KM} {a : AuM} {u : Int} (ha : Good k a u) (o : Int) (ho : elemB k.p o = true) : macCheck k o a = ((u * fsum k.p k.al) % k.p == (o * fsum k.p k.al) % k.p) := by
  obtain ⟨hk, _, a2, _, a4, _⟩ := form_is ha.form
  unfold macCheck
  rw [hk, ho, ha.mc, a2, a4]
  simp
theorem wrong_caught {p d e x : Int} (hf : fieldB p = true) (hx : 0 ≤ x ∧ x < p) (h0 : x ≠ 0) (h : ((d % p) * x) % p = ((d % p + e) % p * x) % p) (he : 0 ≤ e ∧ e < p) : e = 0 := by
  have h1 : (e * x) % p = 0 := by
    rw [mm1, mm1, Int.add_mul] at h
    obtain ⟨k, hk⟩ := md_iff.1 h
    have h3 : e * x = p * (-k + (d / p) * x) := by
      have := Int.mul_ediv_add_emod d p
      grind
    rw [h3, Int.mul_emod_right]
  exact cancel_int hf he hx h0 h1
end Go.Proofs.Ythaadgdeadbhkaa
