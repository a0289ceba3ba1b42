/-
  DrawArith: a drawn circuit and inputs that fit.
-/
import Derived.Test.YtapljpcpmdlppaaMgFnArithmetics35
import Derived.Test.YtapljpcpmdlppaaMgFnArithmetics36
namespace Go.Proofs.Ytapljpcpmdlppaa
open Go.RowKit
set_option linter.unusedVariables false
set_option linter.unusedSimpArgs false
theorem zeros_list (m : Nat) : (Builtin.zeroCells (Value.int .i64 0).cells m).toList = (List.replicate m (0 : Int)).map (Value.int .i64) := by
  apply List.ext_getElem?
  intro i
  have hc : (Value.int .i64 0).cells = #[.int .i64 0] := rfl
  simp [Builtin.zeroCells, hc, List.getElem?_map, List.getElem?_replicate]
  by_cases h : i < m
  · rw [List.getElem?_range h]
    simp [h, Nat.mod_one]
  · rw [List.getElem?_eq_none (by simpa using h)]
    simp [h]
set_option maxHeartbeats 400000 in
theorem l27Input_c (w : World) (p : Int) (hp0 : 1 ≤ p) (hp1 : p ≤ 1099511627776) (g : Nat) (A : Option Addr) (n c : Nat) (bs : List Int) (hc : Cur w g A n c bs) :
    Calls Try.prog 99 #[.pointer (some ⟨g, 0, none⟩), .int .i64 p] w fun e w' => ∃ (v : Value) (ins : List Int), e = .returned v ∧ w'.ownsRow w.heap.size 3 1 v 60 (ins.map (Value.int .i64)) ∧ ins.length = 60 ∧ (∀ x ∈ ins, 0 ≤ x ∧ x < p) ∧ Cur w' g A n c bs ∧ w.grownBy w' (some g) := by
  have hgl := hc.lt
  have HL : Hid (∀ y, w.heap.size ≤ y → 0 < n → ∀ a, A = some a → a.block ≠ y) := Lib.hid (fun y hy => hc.old hy)
  have HC := Lib.hid hc
  have d1 : ¬ p < 1 := by omega
  clear hc
  go_enter Try.func99, Try.ntmps99
  go_wp2_with fail
  refine (l03List_c _ p hp1 6 (by omega) g A n c bs HC.out).mono ?_
  rintro e w1 ⟨v1, qs, rfl, o1, l1, r1, c1, g1⟩
  have O1 := Lib.hid o1
  have C1 := Lib.hid c1
  have G1 := Lib.hid g1
  have R1 := Lib.hid r1
  have S1 := g1.size
  clear o1 c1 g1 r1
  go_wp2_with (at_builtin; refine wp_appendZ w1 el_int (Try.underlying3) (by simp [Value.cells, Value.oneCell']) rfl (.tmp 8) (.const (.int .i64 54)) rfl w.heap.size _ 6 (by omega) _ O1.out rfl 54 (by omega) rfl (by unfold maxLen; omega) (by omega) S1 ?_; intro v' w2 o2 g2)
  have o2' : w2.ownsRow w.heap.size 3 1 v' 60 ((qs ++ List.replicate 54 0).map (Value.int .i64)) := by
    rw [zeros_list] at o2
    simpa using o2
  have G2 := Lib.hid (gbNN G1.out g2 (fun y hy => .inl (O1.out.lt y hy).1))
  have C2 : Hid (Cur w2 g A n c bs) := by
    refine Lib.hid (C1.out.kept (S := fun y => v1.ownBlock = some y) (Chg.of g2 (fun y hy => hy)) (g2.block g C1.out.lt (fun e => by have := (O1.out.lt g e.symm).1; omega)) (fun hn a ha e => HL.out a.block (O1.out.lt _ e).1 hn a ha rfl))
  have O2 := Lib.hid o2'
  clear o2 g2 o2'
  go_wp2_with fail
  go_ret
  refine ⟨_, qs ++ List.replicate 54 0, rfl, O2.out, by simp [l1], fun x hx => ?_, C2.out, G2.out⟩
  rcases List.mem_append.1 hx with hx | hx
  · exact ⟨(R1.out x hx).1, (R1.out x hx).2 hp0⟩
  · have := List.eq_of_mem_replicate hx
    omega
/-- What DrawArith hands back. -/
def DrawAJ (w : World) (e : Ending) (w' : World) : Prop :=
  ∃ (V v : Value) (m : AM) (F : List Nat) (ins : List Int), e = .returned (.tuple #[V, v]) ∧ EvOk m ins ∧ m.p ∈ nine ∧ (1 ≤ m.st.length ∧ m.st.length ≤ 14) ∧ m.outs.length ≤ 3 ∧ AggO w' (carith m) F V ∧ (∀ y ∈ F, w.heap.size ≤ y) ∧ w'.ownsRow w.heap.size 3 1 v 60 (ins.map (Value.int .i64)) ∧ w.grownBy w' none
set_option maxHeartbeats 4000000 in
set_option maxRecDepth 1000000 in
theorem DrawArith_c (w : World) (A : Option Addr) (n c : Nat) (bs : List Int) (h : BytesIn w A n bs) :
    Calls Try.prog 48 #[.slice A n c] w (DrawAJ w) := by
  have H := Lib.hid h
  clear h
  go_enter Try.func48, Try.ntmps48
  go_wp2_with fail
  refine (l01New_c _ A n c bs (H.out.grow (gbA (gbR _ _) _))).mono ?_
  rintro e w1 ⟨rfl, hc1, hg1, hz1⟩
  have HC := Lib.hid (show Cur w1 (w.heap.size + 1) A n c bs by simpa using hc1)
  have R1 := Lib.hid ((Blk.new w 30 #[.int .i64 0, .slice none 0 0, .slice none 0 0]).grow hg1)
  have G1 := Lib.hid (gbT (gbA (gbR w none) (.cells #[.int .i64 0, .slice none 0 0, .slice none 0 0] 30)) hg1)
  have Z1 := hg1.size
  simp at Z1
  clear hc1 hg1 hz1
  go_wp2_with fail
  refine (l27Case_c _ _ A n c bs HC.out).mono ?_
  rintro e w2 ⟨V, m, F, rfl, hok, hp, hst, hou, ha, hl, c2, g2⟩
  obtain ⟨A1, n1, s1, A2, n2, s2, rfl⟩ := carith_oform ha
  have HOK := Lib.hid hok
  have HP := Lib.hid hp
  have hpr := nine_le m.p hp
  have L2 := Lib.hid hl
  have R2 := Lib.hid (R1.out.grown g2 (by simp))
  have G2 := Lib.hid (gbN G1.out g2 (fun b e => by injection e with e; omega))
  have S2 := g2.size
  obtain ⟨gA, hgA⟩ : ∃ x, w2.heap.size = x := ⟨_, rfl⟩
  obtain ⟨w3, hw3⟩ : ∃ x : World, w2.alloc (.cells #[.int .i64 m.p, .slice A1 n1 s1, .slice A2 n2 s2] 30) = x := ⟨_, rfl⟩
  have A3 : Hid (AggO w3 (carith m) F (.agg #[.int .i64 m.p, .slice A1 n1 s1, .slice A2 n2 s2])) := by rw [← hw3]; exact Lib.hid (ha.grow (gbA (gbR _ _) _))
  have B3 : Hid (Blk w3 gA 30 #[.int .i64 m.p, .slice A1 n1 s1, .slice A2 n2 s2]) := by rw [← hw3, ← hgA]; exact Lib.hid (Blk.new _ _ _)
  have R3 : Hid (Blk w3 w.heap.size 30 #[.int .i64 0, .slice none 0 0, .slice none 0 0]) := by rw [← hw3]; exact Lib.hid (R2.out.grow (gbA (gbR _ _) _))
  have C3 : Hid (Cur w3 (w.heap.size + 1) A n c bs) := by rw [← hw3]; exact Lib.hid (c2.grow (gbA (gbR _ _) _))
  have G3 : Hid (w.grownBy w3 none) := by rw [← hw3]; exact Lib.hid (gbA G2.out _)
  have L3 : w.heap.size + 1 < gA := by have := HC.out.lt; omega
  clear hok hp ha hl c2 g2
  go_wp2_with fail
  try rw [hw3]
  try rw [hgA]
  clear hw3 hgA
  refine region_chain [.rd (.agg #[.int .i64 m.p, .slice A1 n1 s1, .slice A2 n2 s2]), .rd (.pointer (some ⟨w.heap.size + 1, 0, none⟩)), .rd (.pointer (some ⟨gA, 0, none⟩)), .rd (.int .i64 m.p), .ch, .ch, .ch] (fun y => y = w.heap.size + 1 ∨ y = w.heap.size)
    [⟨[], fun _ w' => w' = w3.drew⟩,
     ⟨[14], fun l w' => (∃ ins : List Int, w'.ownsRow w3.heap.size 3 1 (l.getD 0 undef) 60 (ins.map (Value.int .i64)) ∧ EvOk m ins) ∧ w3.drew.grownBy w' (some (w.heap.size + 1))⟩,
     ⟨[14], fun l w' => (∃ ins : List Int, w'.ownsRow w3.heap.size 3 1 (l.getD 0 undef) 60 (ins.map (Value.int .i64)) ∧ EvOk m ins) ∧ Chg (fun y => y = w.heap.size + 1 ∨ y = w.heap.size) w3.drew w' ∧ Blk w' w.heap.size 30 #[.int .i64 m.p, .slice A1 n1 s1, .slice A2 n2 s2]⟩,
     ⟨[3], fun l w' => (∃ ins : List Int, w'.ownsRow w3.heap.size 3 1 (l.getD 0 undef) 60 (ins.map (Value.int .i64)) ∧ EvOk m ins) ∧ Chg (fun y => y = w.heap.size + 1 ∨ y = w.heap.size) w3.drew w' ∧ Blk w' w.heap.size 30 #[.int .i64 m.p, .slice A1 n1 s1, .slice A2 n2 s2]⟩]
    (by kernel_rfl) (by kernel_rfl) (by kernel_rfl) 3 (by kernel_rfl) (by simp only [flOk, and_true]) rfl rfl ?_ ?_
  · simp only [hopsK, hopK, Kd.next, and_true]
    have BB := Lib.hid (B3.out.grow (gbD (gbR w3 none)))
    have RR := Lib.hid (R3.out.grow (gbD (gbR w3 none)))
    have CC := Lib.hid (C3.out.grow (gbD (gbR w3 none)))
    have SG : ∀ y, (y = w.heap.size + 1 ∨ y = w.heap.size) → y ≠ gA := fun y hy => by omega
    refine ⟨?_, ?_, ?_, ?_, ?_, ?_, ?_⟩
    · intro f w4 hG hd
      have B4 := BB.out.chg hG (fun e => SG _ e rfl)
      have b0 := B4.cell 0
      have b1 := B4.cell 1
      have b2 := B4.cell 2
      simp at b0 b1 b2
      clear hd
      simp [puts, dsts, Act.put]
      go_wp2_with fail
      exact ⟨rfl, rfl⟩
    · (intro f w4 hG hd; (try simp [depsC, dstAt, kAt, bindE, List.filter_cons, bd_data, bd_chain, bd_guard, bd_phase, bd_text, bd_gc] at hd); (first | simp [puts, dsts, Act.put, hd] | simp [puts, dsts, Act.put]); go_wp2_with fail; exact ⟨rfl, rfl⟩)
    · (intro f w4 hG hd; (try simp [depsC, dstAt, kAt, bindE, List.filter_cons, bd_data, bd_chain, bd_guard, bd_phase, bd_text, bd_gc] at hd); (first | simp [puts, dsts, Act.put, hd] | simp [puts, dsts, Act.put]); go_wp2_with fail; exact ⟨rfl, rfl⟩)
    · intro f w4 hG hd
      (try simp [depsC, dstAt, kAt, bindE, List.filter_cons, bd_data, bd_chain, bd_guard, bd_phase, bd_text, bd_gc] at hd)
      have B4 := BB.out.chg hG (fun e => SG _ e rfl)
      have b0 := B4.cell 0
      simp at b0
      (first | simp [puts, dsts, Act.put, hd] | simp [puts, dsts, Act.put])
      go_wp2_with fail
      exact ⟨rfl, rfl⟩
    · intro f w4 hG hI hd
      have hI : w4 = w3.drew := hI
      subst hI
      (try simp [depsC, dstAt, kAt, bindE, List.filter_cons, bd_data, bd_chain, bd_guard, bd_phase, bd_text, bd_gc] at hd)
      (first | simp [puts, dsts, Act.put, hd] | simp [puts, dsts, Act.put])
      go_wp2_with fail
      refine (l27Input_c _ m.p (by omega) (by omega) _ A n c bs CC.out).mono ?_
      rintro e w5 ⟨v, ins, rfl, o5, l5, r5, c5, g5⟩
      have EV : Hid (EvOk m ins) := Lib.hid ⟨HOK.out, l5, elemsB_mk HOK.out.fld r5⟩
      have O5 := Lib.hid o5
      have G5 := Lib.hid g5
      have hch : Chg (fun y => y = w.heap.size + 1 ∨ y = w.heap.size) w3.drew w5 := Chg.of g5 (fun y h => by injection h with h; exact .inl h.symm)
      clear o5 r5 c5 g5
      go_wp2_with fail
      exact ⟨_, rfl, ⟨⟨ins, O5.out, EV.out⟩, G5.out⟩, ⟨hch, by simp [keepsC]⟩⟩
    · intro f w4 hG hI hd
      obtain ⟨⟨ins, ho, hev⟩, g4⟩ := hI
      have ho : w4.ownsRow w3.heap.size 3 1 (f 14) 60 (ins.map (Value.int .i64)) := ho
      (try simp [depsC, dstAt, kAt, bindE, List.filter_cons, bd_data, bd_chain, bd_guard, bd_phase, bd_text, bd_gc] at hd)
      have R4 := RR.out.grown g4 (by simp)
      have b0 := R4.cell 0
      have b1 := R4.cell 1
      have b2 := R4.cell 2
      have f0 := R4.frozen 0
      have f1 := R4.frozen 1
      have f2 := R4.frozen 2
      simp at b0 b1 b2
      have hch := chgT3 w4 w.heap.size (.int .i64 m.p) (.slice A1 n1 s1) (.slice A2 n2 s2)
      have O7 := Lib.hid (Chg.own ho hch (fun y hy e => by have := (ho.lt y hy).1; have := B3.out.lt; omega))
      have R7 := Lib.hid (fillT3 R4 (.int .i64 m.p) (.slice A1 n1 s1) (.slice A2 n2 s2))
      have EV := Lib.hid hev
      have h8 : Chg (fun y => y = w.heap.size + 1 ∨ y = w.heap.size) w3.drew _ := (Chg.of g4 (fun y h => by injection h with h; exact .inl h.symm)).trans (hch.mono (fun y hy => .inr hy))
      have h9 := hch.mono (T := fun y => y = w.heap.size + 1 ∨ y = w.heap.size) (fun y hy => .inr hy)
      clear ho hev R4 hch
      simp [puts, dsts, Act.put, hd]
      go_wp2_with fail
      exact ⟨rfl, ⟨.bool false, ⟨ins, O7.out, EV.out⟩, h8, R7.out⟩, h9, by simp [keepsC]⟩
    · intro f w4 hG hI hd
      obtain ⟨⟨ins, ho, hev⟩, h4, R4⟩ := hI
      have HO : Hid (w4.ownsRow w3.heap.size 3 1 (f 14) 60 (ins.map (Value.int .i64))) := Lib.hid ho
      have EV := Lib.hid hev
      have RH := Lib.hid R4
      clear ho hev hd R4
      simp [puts, dsts, Act.put]
      go_wp2_with fail
      exact ⟨_, rfl, ⟨ins, HO.out, EV.out⟩, h4, RH.out⟩
  · intro f w6 hI hd
    obtain ⟨⟨ins, ho, hev⟩, hch, B6⟩ := hI
    have ho : w6.ownsRow w3.heap.size 3 1 (f 3) 60 (ins.map (Value.int .i64)) := ho
    obtain ⟨gi, ci, e3, _, _⟩ := own_form2 ho (by omega)
    rw [e3] at ho
    have HO := Lib.hid ho
    have EV := Lib.hid hev
    have BR := Lib.hid B6
    have A6 := Lib.hid (A3.out.chg ((Chg.of (gbD (gbR w3 none)) (by simp)).trans hch) (fun y hy e => by have e : y = w.heap.size + 1 ∨ y = w.heap.size := e; have := L2.out y hy; have := HC.out.lt; omega))
    have G6 := Lib.hid (gbChg G3.out ((Chg.of (gbD (gbR w3 none)) (by simp)).trans hch) (fun y hy => by have hy : y = w.heap.size + 1 ∨ y = w.heap.size := hy; omega))
    simp only [puts, dsts, Act.put, e3, List.filterMap_cons, List.filterMap_nil, List.setIfInBounds_toArray, List.set_cons_zero, List.set_cons_succ]
    clear hd ho hev hch B6 e3
    go_wp2_with fail
    refine ret_ct Try.results48 (by rfl) stArith (cs := #[.int .i64 m.p, .slice A1 n1 s1, .slice A2 n2 s2]) BR.out (by rfl) (by rfl) ?_
    exact ⟨_, _, m, F, ins, rfl, EV.out, HP.out, hst, hou, A6.out, fun y hy => by have := L2.out y hy; have := HC.out.lt; omega, own_base HO.out (by have := G3.out.size; omega), G6.out⟩
end Go.Proofs.Ytapljpcpmdlppaa
