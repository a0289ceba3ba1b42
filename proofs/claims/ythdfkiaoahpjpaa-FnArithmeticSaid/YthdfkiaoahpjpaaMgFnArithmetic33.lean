/-
  The program's builder: its circuit's copy, what it asks of words, sums.
-/
import Derived.Test.YthdfkiaoahpjpaaMgFnArithmetic10
import Derived.Test.YthdfkiaoahpjpaaMgFnArithmetic29
import Derived.Test.YthdfkiaoahpjpaaMgFnArithmetic30
import Derived.Test.YthdfkiaoahpjpaaMgFnArithmetic32
namespace Go.Proofs.Ythdfkiaoahpjpaa
open Go.RowKit
set_option linter.unusedVariables false
set_option linter.unusedSimpArgs false
theorem GBT.back {T : TypeId} {lo : Nat} {a b : World} (h : Chg (GBT T lo a) a b) (hlo : lo ≤ a.heap.size) {y : Nat} (k : GBT T lo b y) : GBT T lo a y := by
  refine ⟨k.1, fun cur e z hc => ?_⟩
  by_cases h2 : GBT T lo a y
  · exact h2.2 cur e z hc
  · refine k.2 cur e z ?_
    rw [h.block y (by rcases Nat.lt_or_ge y a.heap.size with h1 | h1; exact h1; rw [Array.getElem?_eq_none h1] at hc; cases hc) h2]
    exact hc
theorem GBT.new {T : TypeId} {lo : Nat} {a : World} (hlo : lo ≤ a.heap.size) {y : Nat} (h : a.heap.size ≤ y) : GBT T lo a y :=
  ⟨by omega, fun cur e z hc => by rw [Array.getElem?_eq_none h] at hc; cases hc⟩
theorem GBT.on {T : TypeId} {lo : Nat} {a b c : World} (h : Chg (GBT T lo a) a b) (hlo : lo ≤ a.heap.size) (k : Chg (GBT T lo b) b c) : Chg (GBT T lo a) b c := k.mono fun y hy => GBT.back h hlo hy
theorem Ints.val {w : World} {b o n : Nat} {xs : List Int} (h : Ints w (some ⟨b, o, none⟩) n xs) {j : Nat} (hj : j < n) : w.cell? ⟨b, o + j, none⟩ = some (.int .i64 (xs.getD j 0)) := by
  obtain ⟨b', o', e, _, hc⟩ := h.at_ (by omega)
  injection e with e
  injection e with e1 e2 _
  subst e1; subst e2
  exact hc j hj
def PSH (l2 : Nat) (w : World) (y : Nat) : Prop := l2 ≤ y ∧ ∃ cur, Blk w y 3 cur
theorem BS.push {T : TypeId} {lo hi g l2 : Nat} {m : CM} {w w' : World} (h : BS T lo hi m g w) (k : Chg (PSH l2 w) w w') (hl : hi ≤ l2) : BS T lo hi m g w' := h.chg k fun y hy => ⟨by have := hy.1; omega, _, _, hy.2.choose_spec, by decide⟩
theorem Bld.push {T : TypeId} {lo hi g l2 : Nat} {m : CM} {a b c : World} (h : Bld T lo hi m g a b) (k : Chg (PSH l2 b) b c) (hl : hi ≤ l2) (ha : a.heap.size ≤ l2) : Bld T lo hi m g a c := ⟨h.1.push k hl, h.2.join k fun y hy => .inr (by have := hy.1; omega)⟩
theorem PSH.gbt' {T : TypeId} {lo l2 : Nat} {a b c q : World} (k : Chg (PSH l2 q) b c) (hlo : lo ≤ a.heap.size) (ha : a.heap.size ≤ l2) : Chg (GBT T lo a) b c := k.mono fun y hy => GBT.new hlo (by have := hy.1; omega)
theorem PSH.gbt {T : TypeId} {lo l2 : Nat} {a b c : World} (k : Chg (PSH l2 b) b c) (hlo : lo ≤ a.heap.size) (ha : a.heap.size ≤ l2) : Chg (GBT T lo a) b c := k.mono fun y hy => GBT.new hlo (by have := hy.1; omega)
section
variable {ops : Array Oper} {rest : List Oper} {o : Oper} {a : Act} {Q : Exit → Act → World → Prop}
theorem wp_pushI2 (wr : World) (g : Nat) (hgs : wr.heap.size = g) (hgd : o.guard = none) (s x : Operand)
    (ho : o.op = .call { callee := .builtin .append, args := #[s, x], argTypes := #[24, 24] }) (z : Int) (lo : Nat) (A : Option Addr) (n c : Nat) (xs : List Int) (hown : ownF lo (cints xs) (.slice A n c) wr) (hl : xs.length = n)
    (hs : a.eval s = .slice A n c) (hx : a.eval x = .slice (some ⟨g, 0, none⟩) 1 1) (hn : n ≤ 1000000) (hlo : lo ≤ wr.heap.size)
    (h : ∀ A' c' w', Hid (ownF lo (cints (xs ++ [z])) (.slice A' (n + 1) c') w') → Hid (Chg (PSH lo wr) wr w') → Hid (Chg (PSH lo wr) (wr.alloc (.cells #[.int .i64 z] 3)) w') → wpList Try.prog ops Q rest (a.put o.dst (.slice A' (n + 1) c')) w') :
    wpList Try.prog ops Q (o :: rest) a (wr.alloc (.cells #[.int .i64 z] 3)) := by
  obtain ⟨F, hF, hFl⟩ := hown
  obtain ⟨A2, c2, e2, hF2, hrow⟩ := cints_row hF
  have hr := hrow lo hFl
  rw [hl] at hr
  refine wp_appendG wr g hgs el_int hgd s x ho #[.int .i64 z] rfl (by simp [Value.oneCell']) lo _ n (xs.map (Value.int .i64)) hr hs hx (by unfold maxLen; omega) (by omega) hlo fun v' w9 o9 g9 k9 => ?_
  obtain ⟨A6, c6, rfl, _⟩ := own_form o9
  have key : ∀ y, (Value.slice A n c).ownBlock = some y → PSH lo wr y := fun y hy => by
    obtain ⟨cur, hB9, hb9⟩ := own_blk9 hr hy
    exact ⟨hb9, cur, hB9⟩
  exact h A6 c6 w9 (Lib.hid (ownF.ints (by rw [List.map_append]; simpa using o9))) (Lib.hid ((Chg.of (gbT (gbA (gbR wr _) _) g9) (fun y hy => hy) : Chg (fun y => (Value.slice A n c).ownBlock = some y) wr w9).mono key)) (Lib.hid ((Chg.of g9 (fun y hy => hy) : Chg (fun y => (Value.slice A n c).ownBlock = some y) _ w9).mono key))
theorem wp_pushI (wr : World) (g : Nat) (hgs : wr.heap.size = g) (hgd : o.guard = none) (s x : Operand)
    (ho : o.op = .call { callee := .builtin .append, args := #[s, x], argTypes := #[24, 24] }) (z : Int) (lo : Nat) (A : Option Addr) (n c : Nat) (xs : List Int) (hown : ownF lo (cints xs) (.slice A n c) wr) (hl : xs.length = n)
    (hs : a.eval s = .slice A n c) (hx : a.eval x = .slice (some ⟨g, 0, none⟩) 1 1) (hn : n ≤ 1000000) (hlo : lo ≤ wr.heap.size)
    (h : ∀ A' c' w', Hid (ownF lo (cints (xs ++ [z])) (.slice A' (n + 1) c') w') → Hid (Chg (PSH lo wr) wr w') → wpList Try.prog ops Q rest (a.put o.dst (.slice A' (n + 1) c')) w') :
    wpList Try.prog ops Q (o :: rest) a (wr.alloc (.cells #[.int .i64 z] 3)) := wp_pushI2 wr g hgs hgd s x ho z lo A n c xs hown hl hs hx hn hlo fun A' c' w' h1 h2 _ => h A' c' w' h1 h2
end
set_option maxHeartbeats 2000000 in
set_option maxRecDepth 100000 in
theorem implcopyCircuit_c (m : CM) (v : Value) (w0 : World) (h : AggR w0 (ccircuit m) v) (wg : m.gt.length ≤ 1048576) (wo : m.outs.length ≤ 1048576) :
    Calls Try.prog 48 #[v] w0 fun e w' => ∃ v, e = .returned v ∧ aggF w0.heap.size (ccircuit m) v w' ∧ w0.grownBy w' none := by
  obtain ⟨u1, u2, rfl, h1, h2⟩ := ccircuit_open h
  obtain ⟨A, c, rfl, hc, hm, hF⟩ := plst_rd (s := 3) (fun _ => rfl) (by omega) h1
  obtain ⟨B, d, rfl, hd1, hm2, hJ⟩ := cints_rd h2
  obtain ⟨w1, hw1⟩ : ∃ x : World, ((w0.alloc (.cells #[.slice A m.gt.length c, .slice B m.outs.length d] 28)).alloc (.cells #[.slice none 0 0, .slice none 0 0] 28)) = x := ⟨_, rfl⟩
  have GW : Hid (w0.grownBy w1 none) := by rw [← hw1]; exact gbA (gbA (gbR _ _) _) _
  have z1 : Hid (w1.heap.size = w0.heap.size + 2) := by rw [← hw1]; exact Lib.hid (by simp)
  have D1 : Hid (Blk w1 w0.heap.size 28 #[.slice A m.gt.length c, .slice B m.outs.length d]) := by rw [← hw1]; exact (Blk.new w0 _ _).grow (gbA (gbR _ _) _)
  have D3 : Hid (Blk w1 (w0.heap.size + 1) 28 #[.slice none 0 0, .slice none 0 0]) := by rw [← hw1]; exact Blk.new' _ _ _ _ (by simp)
  have IF := Lib.hid (FL.grow hF GW.out)
  have IJ := Lib.hid (hJ.grow GW.out)
  have WG := Lib.hid wg
  have WO := Lib.hid wo
  clear h h1 h2 hF hJ wg wo
  go_enter Try.func48, Try.ntmps48
  go_wp2_with fail
  clear hw1
  have hlz : w0.heap.size + 2 ≤ w1.heap.size := by have := z1.out; omega
  have d0 := D1.out.cell 0
  have d1 := D1.out.cell 1
  simp at d0 d1
  refine region_chain [.ch, .rd (.pointer (some ⟨w0.heap.size, 0, none⟩)), .rd (.slice A m.gt.length c), .ch, .rd (.pointer (some ⟨w0.heap.size, 1, none⟩)), .rd (.slice B m.outs.length d), .ch, .ch, .ch] (fun _ => False)
    [⟨[], fun _ w' => w1.drew.grownBy w' none⟩,
     ⟨[3], fun l w' => ∃ g, l.getD 0 undef = .slice (some ⟨g, 0, none⟩) 0 0 ∧ w'.ownsRow 0 41 3 (.slice (some ⟨g, 0, none⟩) 0 0) 0 [] ∧ w1.heap.size ≤ g⟩,
     ⟨[6], fun l w' => ownF (w0.heap.size + 2) (cgates m.gt) (l.getD 0 undef) w'⟩,
     ⟨[6, 9], fun l w' => ownL (w0.heap.size + 2) [cgates m.gt, cints m.outs] [l.getD 0 undef, l.getD 1 undef] w'⟩,
     ⟨[10], fun l w' => aggF (w0.heap.size + 2) (ccircuit m) (l.getD 0 undef) w'⟩,
     ⟨[], fun _ w' => ∃ F, SOF 28 (ccircuit m) (w0.heap.size + 1) F w' ∧ (∀ x ∈ F, w0.heap.size ≤ x) ∧ w0.grownBy w' none⟩]
    (by kernel_rfl) (by kernel_rfl) (by kernel_rfl) 5 (by kernel_rfl) (by simp only [flOk, and_true]) (gbR _ _) rfl ?_ ?_
  · simp only [hopsK, hopK, Kd.next, and_true]
    refine ⟨?_, ?_, ?_, ?_, ?_, ?_, ?_, ?_, ?_⟩
    · intro f w4 hG hI hd
      have hg4 := gbT (gbD (gbR w1 none)) (chgF hG)
      have hz4 := hg4.size
      clear hd
      simp [puts, dsts, Act.put]
      go_wp2_with fail
      exact ⟨_, rfl, ⟨_, rfl, World.ownsRow_made w4 #[] 0 (Nat.zero_le _) (by simp) rfl, hg4.size⟩, ⟨Chg.of (gbA (gbR _ none) _) (by simp), by simp [keepsC]⟩⟩
    · intro f w4 hG hd
      have hg4 := gbT (gbD (gbR w1 none)) (chgF hG)
      (try simp [depsC, dstAt, kAt, bindE, List.filter_cons, bd_data, bd_chain, bd_guard, bd_phase, bd_text, bd_gc] at hd)
      (first | simp [puts, dsts, Act.put, hd] | simp [puts, dsts, Act.put])
      clear hd
      go_wp2_with fail
      exact ⟨rfl, rfl⟩
    · intro f w4 hG hd
      have hg4 := gbT (gbD (gbR w1 none)) (chgF hG)
      have k0 := gbk hg4 (d0)
      (try simp [depsC, dstAt, kAt, bindE, List.filter_cons, bd_data, bd_chain, bd_guard, bd_phase, bd_text, bd_gc] at hd)
      (first | simp [puts, dsts, Act.put, hd] | simp [puts, dsts, Act.put])
      clear hd
      go_wp2_with fail
      exact ⟨rfl, rfl⟩
    · intro f w4 hG hI hd
      have hg4 := gbT (gbD (gbR w1 none)) (chgF hG)
      have hz4 := hg4.size
      obtain ⟨g, e5, o5, l5⟩ := hI
      have e5 : f 3 = .slice (some ⟨g, 0, none⟩) 0 0 := e5
      (try simp [depsC, dstAt, kAt, bindE, List.filter_cons, bd_data, bd_chain, bd_guard, bd_phase, bd_text, bd_gc] at hd)
      simp [puts, dsts, Act.put, hd, e5]
      clear hd
      go_wp2_with (go_loud (at_builtin; refine wp_appendE w4 elGate rfl (.tmp 3) (.tmp 5) rfl g o5 rfl A m.gt.length c _ rfl (FL.grow IF.out hg4).rd (fun u hu => by obtain ⟨x, _, hx⟩ := List.mem_flatMap.1 hu; exact c3_one x u hx) (by have := WG.out; unfold maxLen; omega) (by have := WG.out; omega) ?_; intro v6 w6 o6 g6 n6))
      have O6 : Hid (ownF (w0.heap.size + 2) (cgates m.gt) v6 w6) := Lib.hid ⟨_, plst_own (s := 3) (fun _ => rfl) (by omega) c3_one o6, fun x hx => by rcases n6 x (by simpa using hx) with h6 | h6 <;> omega⟩
      exact ⟨_, rfl, O6.out, ⟨Chg.of g6 (by simp), by simp [keepsC]⟩⟩
    · intro f w4 hG hd
      have hg4 := gbT (gbD (gbR w1 none)) (chgF hG)
      (try simp [depsC, dstAt, kAt, bindE, List.filter_cons, bd_data, bd_chain, bd_guard, bd_phase, bd_text, bd_gc] at hd)
      (first | simp [puts, dsts, Act.put, hd] | simp [puts, dsts, Act.put])
      clear hd
      go_wp2_with fail
      exact ⟨rfl, rfl⟩
    · intro f w4 hG hd
      have hg4 := gbT (gbD (gbR w1 none)) (chgF hG)
      have k1 := gbk hg4 (d1)
      (try simp [depsC, dstAt, kAt, bindE, List.filter_cons, bd_data, bd_chain, bd_guard, bd_phase, bd_text, bd_gc] at hd)
      (first | simp [puts, dsts, Act.put, hd] | simp [puts, dsts, Act.put])
      clear hd
      go_wp2_with fail
      exact ⟨rfl, rfl⟩
    · intro f w4 hG hI hd
      have hg4 := gbT (gbD (gbR w1 none)) (chgF hG)
      have hz4 := hg4.size
      have H8 : Hid (ownF (w0.heap.size + 2) (cgates m.gt) (f 6) w4) := hI
      clear hI
      (try simp [depsC, dstAt, kAt, bindE, List.filter_cons, bd_data, bd_chain, bd_guard, bd_phase, bd_text, bd_gc] at hd)
      (first | simp [puts, dsts, Act.put, hd] | simp [puts, dsts, Act.put])
      clear hd
      go_wp2_with fail
      refine (ints_c B m.outs.length d m.outs w4 (IJ.out.grow hg4) (by have := WO.out; omega)).mono ?_
      rintro e w6 ⟨v6, rfl, o6, g6⟩
      have O6 := Lib.hid (H8.out.one.app g6 (ownF.ints (lo := w4.heap.size) o6).one (by omega))
      have G6 := Lib.hid g6
      clear o6 g6
      go_wp2_with fail
      exact ⟨_, rfl, O6.out, ⟨Chg.of G6.out (by simp), by simp [keepsC]⟩⟩
    · intro f w4 hG hI hd
      have hg4 := gbT (gbD (gbR w1 none)) (chgF hG)
      have hz4 := hg4.size
      have o7 : ownL (w0.heap.size + 2) [cgates m.gt, cints m.outs] [f 6, f 9] w4 := hI
      obtain ⟨F9, o9, l9⟩ := o7.agg
      obtain ⟨A1, n1, s1, A2, n2, s2, e⟩ := ccircuit_oform o9
      injection e with e
      injection e with e
      injection e with e8 e
      injection e with e11 _
      rw [e8, e11] at o9
      (try simp [depsC, dstAt, kAt, bindE, List.filter_cons, bd_data, bd_chain, bd_guard, bd_phase, bd_text, bd_gc] at hd)
      simp [puts, dsts, Act.put, hd, e8, e11]
      clear hd
      go_wp2_with fail
      exact ⟨_, rfl, ⟨F9, o9, l9⟩, ⟨Chg.refl _ _, by simp [keepsC]⟩⟩
    · intro f w4 hG hI hd
      have hg4 := gbT (gbD (gbR w1 none)) (chgF hG)
      have hz4 := hg4.size
      obtain ⟨F, o8, l8⟩ := hI
      have o8 : AggO w4 (ccircuit m) F (f 10) := o8
      obtain ⟨A1, n1, s1, A2, n2, s2, e8⟩ := ccircuit_oform o8
      rw [e8] at o8
      have R4 := D3.out.grow hg4
      have f0 := R4.frozen 0
      have f1 := R4.frozen 1
      have b0 := R4.cell 0
      have b1 := R4.cell 1
      simp at b0 b1
      have RS := Lib.hid (SOF.store R4 (us := [.slice A1 n1 s1, .slice A2 n2 s2]) rfl o8 (fun hx => by have := l8 _ hx; omega))
      have GS := Lib.hid (gb_chg (gbT GW.out hg4) (chg_setCells (w0.heap.size + 1) [.slice A1 n1 s1, .slice A2 n2 s2] 0 w4) (by omega))
      (try simp [depsC, dstAt, kAt, bindE, List.filter_cons, bd_data, bd_chain, bd_guard, bd_phase, bd_text, bd_gc] at hd)
      simp [puts, dsts, Act.put, hd, e8]
      clear hd R4
      go_wp2_with fail
      exact ⟨rfl, .bool false, F, RS.out, fun x hx => by have := l8 x hx; omega, GS.out⟩
  intro f w9 hI hd
  simp only [puts, dsts, Act.put, List.filterMap_cons, List.filterMap_nil, List.setIfInBounds_toArray, List.set_cons_zero, List.set_cons_succ]
  obtain ⟨F, hS, hl, hG⟩ := hI
  obtain ⟨vs, hB, hA⟩ := hS.agg
  have HA := Lib.hid hA
  have HL := Lib.hid hl
  have HG := Lib.hid hG
  clear hd hS hA hl hG d0 d1
  go_wp2_with fail
  refine ret_c Try.results48 (by rfl) stCircuit (cs := vs.toArray) hB (by rw [List.size_toArray]; exact agg_len HA.out) (by rfl) ?_
  exact ⟨_, rfl, ⟨F, HA.out, HL.out⟩, HG.out⟩
end Go.Proofs.Ythdfkiaoahpjpaa
