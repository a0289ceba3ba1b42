/-
  More draws: once in n, a list of numbers below p, a word.
-/
import Derived.Test.YthaadgdeadbhkaaMgFnExactEngineNew13
import Derived.Test.YthaadgdeadbhkaaMgFnExactEngineNew5
import Derived.Test.YthaadgdeadbhkaaMgFnExactEngineNew17
import Derived.Test.YthaadgdeadbhkaaMgFnExactEngineNew18
import Derived.Test.YthaadgdeadbhkaaMgFnExactEngineNew6
import Derived.Test.YthaadgdeadbhkaaMgFnExactEngineNew9
import Derived.Test.YthaadgdeadbhkaaMgFnExactEngineNew8
import Derived.Test.YthaadgdeadbhkaaMgFnExactEngineNew19
import Derived.Test.YthaadgdeadbhkaaMgFnExactEngineNew26
import Derived.Test.YthaadgdeadbhkaaMgFnExactEngineNew27
namespace Go.Proofs.Ythaadgdeadbhkaa
open Go.RowKit
set_option linter.unusedVariables false
set_option linter.unusedSimpArgs false
theorem Chg.rdk {S : Nat → Prop} {w w' : World} {sz n : Nat} {A : Option Addr} {xs : List Value} (h : Rd w sz A n xs) (k : Chg S w w') (hs : 0 < n → ∀ a, A = some a → ¬ S a.block) : Rd w' sz A n xs := by
  rcases Nat.eq_zero_or_pos n with h0 | h0
  · exact ⟨h.1, fun hn => by omega⟩
  · exact Chg.rd h k (hs h0)
theorem Cur.kept {S : Nat → Prop} {w w' : World} {g : Nat} {A : Option Addr} {n c : Nat} {bs : List Int} (h : Cur w g A n c bs) (k : Chg S w w') (hg : w'.heap[g]? = w.heap[g]?) (hs : 0 < n → ∀ a, A = some a → ¬ S a.block) : Cur w' g A n c bs := by
  obtain ⟨⟨i, hh, hi, hb⟩, k2, k3, k4, k5⟩ := h
  exact ⟨⟨i, hh, hi, hg.trans hb⟩, Chg.rdk k2 k hs, k3, k4, k5⟩
theorem Cur.old {w : World} {g : Nat} {A : Option Addr} {n c : Nat} {bs : List Int} (h : Cur w g A n c bs) {y : Nat} (hy : w.heap.size ≤ y) : 0 < n → ∀ a, A = some a → a.block ≠ y := fun hn a ha e => by
  obtain ⟨b, o, rfl, hb, _⟩ := h.bytes.2 (by omega)
  injection ha with ha
  subst ha
  simp only at e
  omega
end Go.Proofs.Ythaadgdeadbhkaa
/-
  A drawn arithmetic circuit: the struct that is made, and the regions that append to it.
-/
namespace Go.Proofs.Ythaadgdeadbhkaa
open Go.RowKit
set_option linter.unusedVariables false
set_option linter.unusedSimpArgs false
structure AS (lo g : Nat) (m : AM) (u1 u2 : Value) (F1 F2 : List Nat) (w : World) : Prop where
  blk : Blk w g 29 #[.int .i64 m.p, u1, u2]
  s : (csteps m.st).own w F1 u1
  o : (cints m.outs).own w F2 u2
  l1 : ∀ y ∈ F1, lo ≤ y ∧ y ≠ g ∧ y ∉ F2
  l2 : ∀ y ∈ F2, lo ≤ y ∧ y ≠ g
  lg : lo ≤ g
def ASE (lo g : Nat) (m : AM) (w : World) : Prop := ∃ u1 u2 F1 F2, AS lo g m u1 u2 F1 F2 w
section
variable {lo g : Nat} {m : AM} {u1 u2 : Value} {F1 F2 : List Nat} {w w' : World}
theorem AS.grow (h : AS lo g m u1 u2 F1 F2 w) (k : w.grownBy w' none) : AS lo g m u1 u2 F1 F2 w' := ⟨h.blk.grow k, own_growK _ h.s k, own_growK _ h.o k, h.l1, h.l2, h.lg⟩
theorem ASE.grow (h : ASE lo g m w) (k : w.grownBy w' none) : ASE lo g m w' := by
  obtain ⟨u1, u2, F1, F2, h⟩ := h
  exact ⟨u1, u2, F1, F2, h.grow k⟩
theorem AS.chg {S : Nat → Prop} (h : AS lo g m u1 u2 F1 F2 w) (k : Chg S w w') (hs : ∀ y, S y → y < lo) : AS lo g m u1 u2 F1 F2 w' :=
  ⟨h.blk.chg k (fun e => by have := hs _ e; have := h.lg; omega), own_chgK _ h.s k (fun y hy e => by have := hs _ e; have := (h.l1 y hy).1; omega), own_chgK _ h.o k (fun y hy e => by have := hs _ e; have := (h.l2 y hy).1; omega), h.l1, h.l2, h.lg⟩
theorem ASE.chg {S : Nat → Prop} (h : ASE lo g m w) (k : Chg S w w') (hs : ∀ y, S y → y < lo) : ASE lo g m w' := by
  obtain ⟨u1, u2, F1, F2, h⟩ := h
  exact ⟨u1, u2, F1, F2, h.chg k hs⟩
theorem AS.steps {S : Nat → Prop} {l : List (Int × Int × Int)} {v : Value} {F : List Nat} (h : AS lo g m u1 u2 F1 F2 w) (k : Chg S w w') (hs : ∀ y, S y → y < lo ∨ y ∈ F1) (hv : (csteps l).own w' F v) (hF : ∀ y ∈ F, y ∈ F1 ∨ w.heap.size ≤ y) :
    AS lo g { m with st := l } v u2 F F2 (w'.setCell ⟨g, 1, none⟩ v) := by
  have hb := (h.blk.chg k (fun e => by
    rcases hs _ e with e | e
    · have := h.lg; omega
    · exact (h.l1 g e).2.1 rfl)).set_ 1 v
  have ho := own_chgK _ h.o k (fun y hy e => by
    rcases hs _ e with e | e
    · have := (h.l2 y hy).1; omega
    · exact (h.l1 y e).2.2 hy)
  have hl : ∀ y ∈ F, lo ≤ y ∧ y ≠ g ∧ y ∉ F2 := fun y hy => by
    rcases hF y hy with e | e
    · exact h.l1 y e
    · exact ⟨by have := h.blk.lt; have := h.lg; omega, fun e' => by have := h.blk.lt; omega, fun e' => by have := CS.lt _ h.o y e'; omega⟩
  exact ⟨by simpa using hb, own_setC _ hv g 1 (fun hx => (hl g hx).2.1 rfl) v, own_setC _ ho g 1 (fun hx => (h.l2 g hx).2 rfl) v, hl, h.l2, h.lg⟩
theorem AS.outs {S : Nat → Prop} {l : List Int} {v : Value} {F : List Nat} (h : AS lo g m u1 u2 F1 F2 w) (k : Chg S w w') (hs : ∀ y, S y → y < lo ∨ y ∈ F2) (hv : (cints l).own w' F v) (hF : ∀ y ∈ F, y ∈ F2 ∨ w.heap.size ≤ y) :
    AS lo g { m with outs := l } u1 v F1 F (w'.setCell ⟨g, 2, none⟩ v) := by
  have hb := (h.blk.chg k (fun e => by
    rcases hs _ e with e | e
    · have := h.lg; omega
    · exact (h.l2 g e).2 rfl)).set_ 2 v
  have ho := own_chgK _ h.s k (fun y hy e => by
    rcases hs _ e with e | e
    · have := (h.l1 y hy).1; omega
    · exact (h.l1 y hy).2.2 e)
  have hl : ∀ y ∈ F, lo ≤ y ∧ y ≠ g ∧ y ∉ F1 := fun y hy => by
    rcases hF y hy with e | e
    · exact ⟨(h.l2 y e).1, (h.l2 y e).2, fun e' => (h.l1 y e').2.2 e⟩
    · exact ⟨by have := h.blk.lt; have := h.lg; omega, fun e' => by have := h.blk.lt; omega, fun e' => by have := CS.lt _ h.s y e'; omega⟩
  exact ⟨by simpa using hb, own_setC _ ho g 2 (fun hx => (h.l1 g hx).2.1 rfl) v, own_setC _ hv g 2 (fun hx => (hl g hx).2.1 rfl) v, fun y hy => ⟨(h.l1 y hy).1, (h.l1 y hy).2.1, fun e => (hl y e).2.2 hy⟩, fun y hy => ⟨(hl y hy).1, (hl y hy).2.1⟩, h.lg⟩
end
end Go.Proofs.Ythaadgdeadbhkaa
/-
  A drawn arithmetic circuit: it is well-formed; its inputs fit.
-/
namespace Go.Proofs.Ythaadgdeadbhkaa
open Go.RowKit
set_option linter.unusedVariables false
set_option linter.unusedSimpArgs false
end Go.Proofs.Ythaadgdeadbhkaa
/-
  copyKeys, copyArith of the program.
-/
namespace Go.Proofs.Ythaadgdeadbhkaa
open Go.RowKit
set_option linter.unusedVariables false
set_option linter.unusedSimpArgs false
set_option maxHeartbeats 2000000 in
set_option maxRecDepth 100000 in
theorem implcopyKeys_c (k : KM) (kv : Value) (w0 : World) (h : AggR w0 (ckeys k) kv) (wk : kwf k) :
    Calls Try.prog 51 #[kv] w0 fun e w' => ∃ v, e = .returned v ∧ aggF w0.heap.size (ckeys k) v w' ∧ w0.grownBy w' none := by
  obtain ⟨A, c, rfl, hc, hm, hI⟩ := ckeys_sl h
  obtain ⟨w1, hw1⟩ : ∃ x : World, ((w0.alloc (.cells #[.int .i64 k.p, .slice A k.al.length c] 26)).alloc (.cells #[.int .i64 0, .slice none 0 0] 26)) = x := ⟨_, rfl⟩
  have GW : Hid (w0.grownBy w1 none) := by rw [← hw1]; exact gbA (gbA (gbR _ _) _) _
  have z1 : Hid (w1.heap.size = w0.heap.size + 2) := by rw [← hw1]; exact Lib.hid (by simp)
  have D1 : Hid (Blk w1 w0.heap.size 26 #[.int .i64 k.p, .slice A k.al.length c]) := by rw [← hw1]; exact (Blk.new w0 _ _).grow (gbA (gbR _ _) _)
  have D3 : Hid (Blk w1 (w0.heap.size + 1) 26 #[.int .i64 0, .slice none 0 0]) := by rw [← hw1]; exact Blk.new' _ _ _ _ (by simp)
  have IS := Lib.hid (hI.grow GW.out)
  have WK := Lib.hid wk.2
  clear h hI wk
  go_enter Try.func51, Try.ntmps51
  go_wp2_with fail
  clear hw1
  have hlz : w0.heap.size + 2 ≤ w1.heap.size := by have := z1.out; omega
  have d0 := D1.out.cell 0
  have d1 := D1.out.cell 1
  simp at d0 d1
  refine region_chain [.rd (.pointer (some ⟨w0.heap.size, 0, none⟩)), .rd (.int .i64 k.p), .rd (.pointer (some ⟨w0.heap.size, 1, none⟩)), .rd (.slice A k.al.length c), .ch, .ch, .ch] (fun _ => False)
    [⟨[], fun _ w' => w1.drew.grownBy w' none⟩,
     ⟨[7], fun l w' => ownF (w0.heap.size + 2) (cints k.al) (l.getD 0 undef) w'⟩,
     ⟨[8], fun l w' => aggF (w0.heap.size + 2) (ckeys k) (l.getD 0 undef) w'⟩,
     ⟨[], fun _ w' => ∃ F, SOF 26 (ckeys k) (w0.heap.size + 1) F w' ∧ (∀ x ∈ F, w0.heap.size ≤ x) ∧ w0.grownBy w' none⟩]
    (by kernel_rfl) (by kernel_rfl) (by kernel_rfl) 3 (by kernel_rfl) (by simp only [flOk, and_true]) (gbR _ _) rfl ?_ ?_
  · simp only [hopsK, hopK, Kd.next, and_true]
    refine ⟨?_, ?_, ?_, ?_, ?_, ?_, ?_⟩
    · intro f w4 hG hd
      have hg4 := gbT (gbD (gbR w1 none)) (chgF hG)
      (try simp [depsC, dstAt, kAt, bindE, List.filter_cons, bd_data, bd_chain, bd_guard, bd_phase, bd_text, bd_gc] at hd)
      (first | simp [puts, dsts, Act.put, hd] | simp [puts, dsts, Act.put])
      clear hd
      go_wp2_with fail
      exact ⟨rfl, rfl⟩
    · intro f w4 hG hd
      have hg4 := gbT (gbD (gbR w1 none)) (chgF hG)
      have k0 := gbk hg4 (d0)
      (try simp [depsC, dstAt, kAt, bindE, List.filter_cons, bd_data, bd_chain, bd_guard, bd_phase, bd_text, bd_gc] at hd)
      (first | simp [puts, dsts, Act.put, hd] | simp [puts, dsts, Act.put])
      clear hd
      go_wp2_with fail
      exact ⟨rfl, rfl⟩
    · intro f w4 hG hd
      have hg4 := gbT (gbD (gbR w1 none)) (chgF hG)
      (try simp [depsC, dstAt, kAt, bindE, List.filter_cons, bd_data, bd_chain, bd_guard, bd_phase, bd_text, bd_gc] at hd)
      (first | simp [puts, dsts, Act.put, hd] | simp [puts, dsts, Act.put])
      clear hd
      go_wp2_with fail
      exact ⟨rfl, rfl⟩
    · intro f w4 hG hd
      have hg4 := gbT (gbD (gbR w1 none)) (chgF hG)
      have k1 := gbk hg4 (d1)
      (try simp [depsC, dstAt, kAt, bindE, List.filter_cons, bd_data, bd_chain, bd_guard, bd_phase, bd_text, bd_gc] at hd)
      (first | simp [puts, dsts, Act.put, hd] | simp [puts, dsts, Act.put])
      clear hd
      go_wp2_with fail
      exact ⟨rfl, rfl⟩
    · intro f w4 hG hI hd
      have hg4 := gbT (gbD (gbR w1 none)) (chgF hG)
      have hz4 := hg4.size
      (try simp [depsC, dstAt, kAt, bindE, List.filter_cons, bd_data, bd_chain, bd_guard, bd_phase, bd_text, bd_gc] at hd)
      (first | simp [puts, dsts, Act.put, hd] | simp [puts, dsts, Act.put])
      clear hd
      go_wp2_with fail
      refine (ints_c A k.al.length c k.al w4 (IS.out.grow hg4) (by have := WK.out; omega)).mono ?_
      rintro e w6 ⟨v6, rfl, o6, g6⟩
      have O6 := Lib.hid (ownF.ints (own_base o6 (show w0.heap.size + 2 ≤ w4.heap.size by omega)))
      have G6 := Lib.hid g6
      clear o6 g6
      go_wp2_with fail
      exact ⟨_, rfl, O6.out, ⟨Chg.of G6.out (by simp), by simp [keepsC]⟩⟩
    · intro f w4 hG hI hd
      have hg4 := gbT (gbD (gbR w1 none)) (chgF hG)
      have hz4 := hg4.size
      obtain ⟨F, o7, l7⟩ := hI
      have o7 : (cints k.al).own w4 F (f 7) := o7
      obtain ⟨B1, n1, c1, e7⟩ := row_form o7
      rw [e7] at o7
      (try simp [depsC, dstAt, kAt, bindE, List.filter_cons, bd_data, bd_chain, bd_guard, bd_phase, bd_text, bd_gc] at hd)
      simp [puts, dsts, Act.put, hd, e7]
      clear hd
      go_wp2_with fail
      exact ⟨_, rfl, ⟨_, ckeys_omk o7, fun x hx => l7 x (by simpa using hx)⟩, ⟨Chg.refl _ _, by simp [keepsC]⟩⟩
    · intro f w4 hG hI hd
      have hg4 := gbT (gbD (gbR w1 none)) (chgF hG)
      have hz4 := hg4.size
      obtain ⟨F, o8, l8⟩ := hI
      have o8 : AggO w4 (ckeys k) F (f 8) := o8
      obtain ⟨B1, n1, c1, e8⟩ := ckeys_oform o8
      rw [e8] at o8
      have R4 := D3.out.grow hg4
      have f0 := R4.frozen 0
      have f1 := R4.frozen 1
      have b0 := R4.cell 0
      have b1 := R4.cell 1
      simp at b0 b1
      have RS := Lib.hid (SOF.store R4 (us := [.int .i64 k.p, .slice B1 n1 c1]) rfl o8 (fun hx => by have := l8 _ hx; omega))
      have GS := Lib.hid (gb_chg (gbT GW.out hg4) (chg_setCells (w0.heap.size + 1) [.int .i64 k.p, .slice B1 n1 c1] 0 w4) (by omega))
      (try simp [depsC, dstAt, kAt, bindE, List.filter_cons, bd_data, bd_chain, bd_guard, bd_phase, bd_text, bd_gc] at hd)
      simp [puts, dsts, Act.put, hd, e8]
      clear hd R4
      go_wp2_with fail
      exact ⟨rfl, .bool false, F, RS.out, fun x hx => by have := l8 x hx; omega, GS.out⟩
  intro f w9 hI hd
  simp only [puts, dsts, Act.put, List.filterMap_cons, List.filterMap_nil, List.setIfInBounds_toArray, List.set_cons_zero, List.set_cons_succ]
  obtain ⟨F, hS, hl, hG⟩ := hI
  obtain ⟨vs, hB, hA⟩ := hS.agg
  have HA := Lib.hid hA
  have HL := Lib.hid hl
  have HG := Lib.hid hG
  clear hd hS hA hl hG d0 d1
  go_wp2_with fail
  refine ret_c Try.results51 (by rfl) stKeys (cs := vs.toArray) hB (by rw [List.size_toArray]; exact agg_len HA.out) (by rfl) ?_
  exact ⟨_, rfl, ⟨F, HA.out, HL.out⟩, HG.out⟩
end Go.Proofs.Ythaadgdeadbhkaa
/-
  copyArith of the program.
-/
namespace Go.Proofs.Ythaadgdeadbhkaa
open Go.RowKit
set_option linter.unusedVariables false
set_option linter.unusedSimpArgs false
structure amwf (m : AM) : Prop where
  wf : m.wf
  st : m.st.length ≤ 1048576
  outs : m.outs.length ≤ 1048576
set_option maxHeartbeats 2000000 in
set_option maxRecDepth 100000 in
theorem implcopyArith_c (m : AM) (v : Value) (w0 : World) (h : AggR w0 (carith m) v) (wm : amwf m) :
    Calls Try.prog 52 #[v] w0 fun e w' => ∃ v, e = .returned v ∧ aggF w0.heap.size (carith m) v w' ∧ w0.grownBy w' none := by
  obtain ⟨u1, u2, rfl, h1, h2⟩ := carith_open h
  obtain ⟨A, c, rfl, hc, hm, hF⟩ := plst_rd (s := 3) (fun _ => rfl) (by omega) h1
  obtain ⟨B, d, rfl, hd1, hm2, hJ⟩ := cints_rd h2
  obtain ⟨w1, hw1⟩ : ∃ x : World, ((w0.alloc (.cells #[.int .i64 m.p, .slice A m.st.length c, .slice B m.outs.length d] 29)).alloc (.cells #[.int .i64 0, .slice none 0 0, .slice none 0 0] 29)) = x := ⟨_, rfl⟩
  have GW : Hid (w0.grownBy w1 none) := by rw [← hw1]; exact gbA (gbA (gbR _ _) _) _
  have z1 : Hid (w1.heap.size = w0.heap.size + 2) := by rw [← hw1]; exact Lib.hid (by simp)
  have D1 : Hid (Blk w1 w0.heap.size 29 #[.int .i64 m.p, .slice A m.st.length c, .slice B m.outs.length d]) := by rw [← hw1]; exact (Blk.new w0 _ _).grow (gbA (gbR _ _) _)
  have D3 : Hid (Blk w1 (w0.heap.size + 1) 29 #[.int .i64 0, .slice none 0 0, .slice none 0 0]) := by rw [← hw1]; exact Blk.new' _ _ _ _ (by simp)
  have IF := Lib.hid (FL.grow hF GW.out)
  have IJ := Lib.hid (hJ.grow GW.out)
  have WM := Lib.hid wm
  clear h h1 h2 hF hJ wm
  go_enter Try.func52, Try.ntmps52
  go_wp2_with fail
  clear hw1
  have hlz : w0.heap.size + 2 ≤ w1.heap.size := by have := z1.out; omega
  have d0 := D1.out.cell 0
  have d1 := D1.out.cell 1
  have d2 := D1.out.cell 2
  simp at d0 d1 d2
  refine region_chain [.rd (.pointer (some ⟨w0.heap.size, 0, none⟩)), .rd (.int .i64 m.p), .ch, .rd (.pointer (some ⟨w0.heap.size, 1, none⟩)), .rd (.slice A m.st.length c), .ch, .rd (.pointer (some ⟨w0.heap.size, 2, none⟩)), .rd (.slice B m.outs.length d), .ch, .ch, .ch] (fun _ => False)
    [⟨[], fun _ w' => w1.drew.grownBy w' none⟩,
     ⟨[5], fun l w' => ∃ g, l.getD 0 undef = .slice (some ⟨g, 0, none⟩) 0 0 ∧ w'.ownsRow 0 95 3 (.slice (some ⟨g, 0, none⟩) 0 0) 0 [] ∧ w1.heap.size ≤ g⟩,
     ⟨[8], fun l w' => ownF (w0.heap.size + 2) (csteps m.st) (l.getD 0 undef) w'⟩,
     ⟨[8, 11], fun l w' => ownL (w0.heap.size + 2) [csteps m.st, cints m.outs] [l.getD 0 undef, l.getD 1 undef] w'⟩,
     ⟨[12], fun l w' => aggF (w0.heap.size + 2) (carith m) (l.getD 0 undef) w'⟩,
     ⟨[], fun _ w' => ∃ F, SOF 29 (carith m) (w0.heap.size + 1) F w' ∧ (∀ x ∈ F, w0.heap.size ≤ x) ∧ w0.grownBy w' none⟩]
    (by kernel_rfl) (by kernel_rfl) (by kernel_rfl) 5 (by kernel_rfl) (by simp only [flOk, and_true]) (gbR _ _) rfl ?_ ?_
  · simp only [hopsK, hopK, Kd.next, and_true]
    refine ⟨?_, ?_, ?_, ?_, ?_, ?_, ?_, ?_, ?_, ?_, ?_⟩
    · intro f w4 hG hd
      have hg4 := gbT (gbD (gbR w1 none)) (chgF hG)
      (try simp [depsC, dstAt, kAt, bindE, List.filter_cons, bd_data, bd_chain, bd_guard, bd_phase, bd_text, bd_gc] at hd)
      (first | simp [puts, dsts, Act.put, hd] | simp [puts, dsts, Act.put])
      clear hd
      go_wp2_with fail
      exact ⟨rfl, rfl⟩
    · intro f w4 hG hd
      have hg4 := gbT (gbD (gbR w1 none)) (chgF hG)
      have k0 := gbk hg4 (d0)
      (try simp [depsC, dstAt, kAt, bindE, List.filter_cons, bd_data, bd_chain, bd_guard, bd_phase, bd_text, bd_gc] at hd)
      (first | simp [puts, dsts, Act.put, hd] | simp [puts, dsts, Act.put])
      clear hd
      go_wp2_with fail
      exact ⟨rfl, rfl⟩
    · intro f w4 hG hI hd
      have hg4 := gbT (gbD (gbR w1 none)) (chgF hG)
      have hz4 := hg4.size
      clear hd
      simp [puts, dsts, Act.put]
      go_wp2_with fail
      exact ⟨_, rfl, ⟨_, rfl, World.ownsRow_made w4 #[] 0 (Nat.zero_le _) (by simp) rfl, hg4.size⟩, ⟨Chg.of (gbA (gbR _ none) _) (by simp), by simp [keepsC]⟩⟩
    · intro f w4 hG hd
      have hg4 := gbT (gbD (gbR w1 none)) (chgF hG)
      (try simp [depsC, dstAt, kAt, bindE, List.filter_cons, bd_data, bd_chain, bd_guard, bd_phase, bd_text, bd_gc] at hd)
      (first | simp [puts, dsts, Act.put, hd] | simp [puts, dsts, Act.put])
      clear hd
      go_wp2_with fail
      exact ⟨rfl, rfl⟩
    · intro f w4 hG hd
      have hg4 := gbT (gbD (gbR w1 none)) (chgF hG)
      have k1 := gbk hg4 (d1)
      (try simp [depsC, dstAt, kAt, bindE, List.filter_cons, bd_data, bd_chain, bd_guard, bd_phase, bd_text, bd_gc] at hd)
      (first | simp [puts, dsts, Act.put, hd] | simp [puts, dsts, Act.put])
      clear hd
      go_wp2_with fail
      exact ⟨rfl, rfl⟩
    · intro f w4 hG hI hd
      have hg4 := gbT (gbD (gbR w1 none)) (chgF hG)
      have hz4 := hg4.size
      obtain ⟨g, e5, o5, l5⟩ := hI
      have e5 : f 5 = .slice (some ⟨g, 0, none⟩) 0 0 := e5
      (try simp [depsC, dstAt, kAt, bindE, List.filter_cons, bd_data, bd_chain, bd_guard, bd_phase, bd_text, bd_gc] at hd)
      simp [puts, dsts, Act.put, hd, e5]
      clear hd
      go_wp2_with (at_builtin; refine wp_appendE w4 elStep rfl (.tmp 5) (.tmp 7) rfl g o5 rfl A m.st.length c _ rfl (FL.grow IF.out hg4).rd (fun u hu => by obtain ⟨x, _, hx⟩ := List.mem_flatMap.1 hu; exact c3_one x u hx) (by have := WM.out.st; unfold maxLen; omega) (by have := WM.out.st; omega) ?_; intro v6 w6 o6 g6 n6)
      have O6 : Hid (ownF (w0.heap.size + 2) (csteps m.st) v6 w6) := Lib.hid ⟨_, plst_own (s := 3) (fun _ => rfl) (by omega) c3_one o6, fun x hx => by rcases n6 x (by simpa using hx) with h6 | h6 <;> omega⟩
      exact ⟨_, rfl, O6.out, ⟨Chg.of g6 (by simp), by simp [keepsC]⟩⟩
    · intro f w4 hG hd
      have hg4 := gbT (gbD (gbR w1 none)) (chgF hG)
      (try simp [depsC, dstAt, kAt, bindE, List.filter_cons, bd_data, bd_chain, bd_guard, bd_phase, bd_text, bd_gc] at hd)
      (first | simp [puts, dsts, Act.put, hd] | simp [puts, dsts, Act.put])
      clear hd
      go_wp2_with fail
      exact ⟨rfl, rfl⟩
    · intro f w4 hG hd
      have hg4 := gbT (gbD (gbR w1 none)) (chgF hG)
      have k2 := gbk hg4 (d2)
      (try simp [depsC, dstAt, kAt, bindE, List.filter_cons, bd_data, bd_chain, bd_guard, bd_phase, bd_text, bd_gc] at hd)
      (first | simp [puts, dsts, Act.put, hd] | simp [puts, dsts, Act.put])
      clear hd
      go_wp2_with fail
      exact ⟨rfl, rfl⟩
    · intro f w4 hG hI hd
      have hg4 := gbT (gbD (gbR w1 none)) (chgF hG)
      have hz4 := hg4.size
      have H8 : Hid (ownF (w0.heap.size + 2) (csteps m.st) (f 8) w4) := hI
      clear hI
      (try simp [depsC, dstAt, kAt, bindE, List.filter_cons, bd_data, bd_chain, bd_guard, bd_phase, bd_text, bd_gc] at hd)
      (first | simp [puts, dsts, Act.put, hd] | simp [puts, dsts, Act.put])
      clear hd
      go_wp2_with fail
      refine (ints_c B m.outs.length d m.outs w4 (IJ.out.grow hg4) (by have := WM.out.outs; omega)).mono ?_
      rintro e w6 ⟨v6, rfl, o6, g6⟩
      have O6 := Lib.hid (H8.out.one.app g6 (ownF.ints (lo := w4.heap.size) o6).one (by omega))
      have G6 := Lib.hid g6
      clear o6 g6
      go_wp2_with fail
      exact ⟨_, rfl, O6.out, ⟨Chg.of G6.out (by simp), by simp [keepsC]⟩⟩
    · intro f w4 hG hI hd
      have hg4 := gbT (gbD (gbR w1 none)) (chgF hG)
      have hz4 := hg4.size
      have o7 : ownL (w0.heap.size + 2) [csteps m.st, cints m.outs] [f 8, f 11] w4 := hI
      obtain ⟨F9, o9, l9⟩ := (o7.pl (x := .int .i64 m.p) rfl).agg
      obtain ⟨A1, n1, s1, A2, n2, s2, e⟩ := carith_oform o9
      injection e with e
      injection e with e
      injection e with _ e
      injection e with e8 e
      injection e with e11 _
      rw [e8, e11] at o9
      (try simp [depsC, dstAt, kAt, bindE, List.filter_cons, bd_data, bd_chain, bd_guard, bd_phase, bd_text, bd_gc] at hd)
      simp [puts, dsts, Act.put, hd, e8, e11]
      clear hd
      go_wp2_with fail
      exact ⟨_, rfl, ⟨F9, o9, l9⟩, ⟨Chg.refl _ _, by simp [keepsC]⟩⟩
    · intro f w4 hG hI hd
      have hg4 := gbT (gbD (gbR w1 none)) (chgF hG)
      have hz4 := hg4.size
      obtain ⟨F, o8, l8⟩ := hI
      have o8 : AggO w4 (carith m) F (f 12) := o8
      obtain ⟨A1, n1, s1, A2, n2, s2, e8⟩ := carith_oform o8
      rw [e8] at o8
      have R4 := D3.out.grow hg4
      have f0 := R4.frozen 0
      have f1 := R4.frozen 1
      have f2 := R4.frozen 2
      have b0 := R4.cell 0
      have b1 := R4.cell 1
      have b2 := R4.cell 2
      simp at b0 b1 b2
      have RS := Lib.hid (SOF.store R4 (us := [.int .i64 m.p, .slice A1 n1 s1, .slice A2 n2 s2]) rfl o8 (fun hx => by have := l8 _ hx; omega))
      have GS := Lib.hid (gb_chg (gbT GW.out hg4) (chg_setCells (w0.heap.size + 1) [.int .i64 m.p, .slice A1 n1 s1, .slice A2 n2 s2] 0 w4) (by omega))
      (try simp [depsC, dstAt, kAt, bindE, List.filter_cons, bd_data, bd_chain, bd_guard, bd_phase, bd_text, bd_gc] at hd)
      simp [puts, dsts, Act.put, hd, e8]
      clear hd R4
      go_wp2_with fail
      exact ⟨rfl, .bool false, F, RS.out, fun x hx => by have := l8 x hx; omega, GS.out⟩
  intro f w9 hI hd
  simp only [puts, dsts, Act.put, List.filterMap_cons, List.filterMap_nil, List.setIfInBounds_toArray, List.set_cons_zero, List.set_cons_succ]
  obtain ⟨F, hS, hl, hG⟩ := hI
  obtain ⟨vs, hB, hA⟩ := hS.agg
  have HA := Lib.hid hA
  have HL := Lib.hid hl
  have HG := Lib.hid hG
  clear hd hS hA hl hG d0 d1 d2
  go_wp2_with fail
  refine ret_c Try.results52 (by rfl) stArith (cs := vs.toArray) hB (by rw [List.size_toArray]; exact agg_len HA.out) (by rfl) ?_
  exact ⟨_, rfl, ⟨F, HA.out, HL.out⟩, HG.out⟩
end Go.Proofs.Ythaadgdeadbhkaa
