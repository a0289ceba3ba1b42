/-
  Drawn input bits; DrawGarbling.
-/
import Derived.Test.YthdfkiaoahpjpaaMgFnCaught42
import Derived.Test.YthdfkiaoahpjpaaMgFnCaught43
namespace Go.Proofs.Ythdfkiaoahpjpaa
open Go.RowKit
set_option linter.unusedVariables false
set_option linter.unusedSimpArgs false
set_option maxHeartbeats 1600000 in
theorem l13Input_c (w : World) (g : Nat) (A : Option Addr) (n c : Nat) (bs : List Int) (hc : Cur w g A n c bs) :
    Calls Try.prog 87 #[.pointer (some ⟨g, 0, none⟩)] w fun e w' => ∃ (A' : Option Addr) (c' : Nat), e = .returned (.slice A' 80 c') ∧ Cur w' g A n c bs ∧ w.grownBy w' (some g) := by
  have hgl := hc.lt
  have HL : Hid (∀ y, w.heap.size ≤ y → 0 < n → ∀ a, A = some a → a.block ≠ y) := Lib.hid (fun y hy => hc.old hy)
  have HC := Lib.hid (hc.grow (gbA (gbR w none) (.cells #[] 3)))
  have HG := Lib.hid (gbW (r := some g) (gbA (gbR w none) (.cells #[] 3)))
  have HO := Lib.hid (World.ownsRow_made (e := 3) (size := 1) (base := w.heap.size) w #[] 0 (Nat.le_refl _) (by simp) rfl)
  clear hc
  go_enter Try.func87, Try.ntmps87
  go_wp2_with fail
  go_loopw [3, 4] (fun s i wr => ∃ (k : Nat) (qs : List Int), k ≤ 20 ∧ i = .int .i64 k ∧ Hid (wr.ownsRow w.heap.size 3 1 s k (qs.map (Value.int .i64))) ∧ Hid (qs.length = k) ∧ Hid (Cur wr g A n c bs) ∧ Hid (w.grownBy wr (some g))) (fun _ i _ => 20 - (intOf i).toNat)
  case atStart => exact ⟨0, [], by omega, rfl, HO.out, rfl, HC.out, HG.out⟩
  case round =>
    obtain ⟨k, qs, hk, rfl, hown, hqs, hcur, hg⟩ := hrel
    by_cases hlt : k < 20
    · go_wp2_with fail
      refine (l01Below_c _ 2 (by omega) _ A n c bs hcur.out).mono ?_
      rintro e w2 ⟨x, rfl, hx0, hx1, hc2, hg2⟩
      have hown2 := own_grown hown.out hg2 (by
        cases hb : Value.ownBlock _ with
        | none => exact .inl rfl
        | some b => refine .inr fun e => ?_
                    have := (hown.out.lt b hb).1
                    injection e with e
                    omega)
      have HC2 := Lib.hid hc2
      have HG2 := Lib.hid (gbT hg.out hg2)
      have hz2 := HG2.out.size
      clear hc2 hg2 hx1 hown hcur hg
      go_wp2_with (at_builtin; refine wp_append1 w2 el_int rfl (.tmp 10) (.tmp 13) rfl _ rfl (by simp [Value.oneCell']) w.heap.size _ k _ hown2 rfl rfl (by unfold maxLen; omega) (by omega) hz2 ?_; intro v' w3 hown3 hgrow)
      have h1 := Lib.hid (show w3.ownsRow w.heap.size 3 1 v' (k + 1) ((qs ++ [x]).map (Value.int .i64)) by simpa using hown3)
      have hC3 := Chg.of (S := fun y => w.heap.size ≤ y) hgrow (fun y hy => (hown2.lt y hy).1)
      have h2 := Lib.hid (gbC HG2.out hC3 (fun y hy => .inr hy))
      have h3 := Lib.hid (HC2.out.kept hC3 (hC3.block g HC2.out.lt (by omega)) (fun hn a ha e => HL.out a.block e hn a ha rfl))
      clear hown3 hgrow hown2 hC3
      go_wp2_with fail
      go_roundw
      case rel => exact ⟨k + 1, qs ++ [x], by omega, by go_num, h1.out, Lib.hid (by simp [hqs.out]), h3.out, h2.out⟩
      case measure => simp [intOf]; omega
    · have hk12 : k = 20 := by omega
      subst hk12
      have hz2 := hg.out.size
      go_wp2_with (at_builtin; refine wp_appendZ _ el_int (Try.underlying3) (by simp [Value.cells, Value.oneCell']) rfl (.tmp 15) (.const (.int .i64 60)) rfl w.heap.size _ 20 (by omega) _ hown.out rfl 60 (by omega) rfl (by unfold maxLen; omega) (by omega) hz2 ?_; intro v' w3 o2 g2)
      have hC3 := Chg.of (S := fun y => w.heap.size ≤ y) g2 (fun y hy => (hown.out.lt y hy).1)
      have h2 := Lib.hid (gbC hg.out hC3 (fun y hy => .inr hy))
      have h3 := Lib.hid (hcur.out.kept hC3 (hC3.block g hcur.out.lt (by omega)) (fun hn a ha e => HL.out a.block e hn a ha rfl))
      obtain ⟨A6, c6, rfl, _⟩ := own_form o2
      clear o2 g2 hC3
      go_wp2_with fail
      go_ret
      exact ⟨A6, c6, rfl, h3.out, h2.out⟩
def GcA (w5 : World) (g : Nat) (v : Value) (w' : World) : Prop := ∃ s a : Nat, v = .agg #[.int .i64 s, .int .i64 a] ∧ Chg (fun y => y = g) w5 w'
def GcB (w5 : World) (g h : Nat) (cs : Array Value) (v : Value) (w' : World) : Prop := ∃ s a : Nat, v = .agg #[.int .i64 s, .int .i64 a] ∧ Blk w' h 28 cs ∧ Chg (fun y => y = g ∨ y = h) w5 w'
theorem ret_ctc {P : Program} {fn : Func} {R : Ending → World → Prop} {a : Act} {w : World} {p q r : Tmp} {T U : TypeId} {g m n n' : Nat} {cs ds : Array Value} (h : fn.results = #[.cell p T, .tmp r, .cell q U]) (hp : a.tmps.getD p undef = .pointer (some ⟨g, 0, none⟩)) (S : St P T n) (B : Blk w g T cs) (hn : cs.size = n)
    (hq : a.tmps.getD q undef = .pointer (some ⟨m, 0, none⟩)) (S' : St P U n') (B' : Blk w m U ds) (hn' : ds.size = n') (hd : a.defers = []) (hR : R (.returned (.tuple #[.agg cs, a.tmps.getD r undef, .agg ds])) w) : bodyPost P fn R .ret a w := by
  refine bodyPost_ret (v := .tuple #[.agg cs, a.tmps.getD r undef, .agg ds]) ?_ hd hR
  have hp' : a.tmps[p]?.getD undef = .pointer (some ⟨g, 0, none⟩) := by simpa using hp
  have hq' : a.tmps[q]?.getD undef = .pointer (some ⟨m, 0, none⟩) := by simpa using hq
  simp [results, h, hp', hq', asAddr, run_row S B hn, run_row S' B' hn']
def DrawGJ (w : World) (e : Ending) (w' : World) : Prop :=
  ∃ (V : Value) (A0 A1 A2 : Option Addr) (n0 s0 n1 s1 c2 s a : Nat) (m : CM), e = .returned (.tuple #[.agg #[.slice A0 n0 s0, .slice A1 n1 s1], .slice A2 80 c2, .agg #[.int .i64 s, .int .i64 a]]) ∧ COk m ∧ (1 ≤ m.outs.length ∧ m.outs.length ≤ 4) ∧ AggR w' (ccircuit m) (.agg #[.slice A0 n0 s0, .slice A1 n1 s1]) ∧ w.grownBy w' none
set_option maxHeartbeats 4000000 in
set_option maxRecDepth 100000 in
theorem DrawGarbling_c (w : World) (A : Option Addr) (n c : Nat) (bs : List Int) (h : BytesIn w A n bs) :
    Calls Try.prog 44 #[.slice A n c] w (DrawGJ w) := by
  have H := Lib.hid h
  clear h
  obtain ⟨w1, hw1⟩ : ∃ x : World, (w.alloc (.cells #[.slice none 0 0, .slice none 0 0] 28)).alloc (.cells #[.int .i64 0, .int .i64 0] 65) = x := ⟨_, rfl⟩
  have G1 : Hid (w.grownBy w1 none) := by rw [← hw1]; exact Lib.hid (gbA (gbA (gbR _ _) _) _)
  have B1 : Hid (Blk w1 w.heap.size 28 #[.slice none 0 0, .slice none 0 0]) := by rw [← hw1]; exact Lib.hid ((Blk.new w _ _).grow (gbA (gbR _ _) _))
  have T1 : Hid (Blk w1 (w.heap.size + 1) 65 #[.int .i64 0, .int .i64 0]) := by rw [← hw1]; exact Lib.hid (Blk.new' _ _ _ _ (by simp))
  go_enter Try.func44, Try.ntmps44
  go_wp2_with fail
  try rw [hw1]
  clear hw1
  refine (l01New_c w1 A n c bs (H.out.grow G1.out)).mono ?_
  rintro e w2 ⟨rfl, c2, g2, z2⟩
  obtain ⟨g, hg⟩ : ∃ g, w1.heap.size = g := ⟨_, rfl⟩
  have hgz : w.heap.size + 1 < g := by have := T1.out.lt; omega
  have C2 := Lib.hid c2
  have G2 := Lib.hid (gbT G1.out g2)
  have B2 := Lib.hid (B1.out.grow g2)
  have T2 := Lib.hid (T1.out.grow g2)
  rw [hg] at C2 ⊢
  clear c2 g2 B1 T1 G1 z2
  go_wp2_with fail
  refine (l13Case_c _ g A n c bs C2.out).mono ?_
  rintro e w3 ⟨V, m, rfl, hok, hgl, hol, ag, c3, g3⟩
  obtain ⟨A0, n0, s0, A1, n1, s1, rfl⟩ := ccircuit_oform ag.choose_spec.1
  have OK := Lib.hid hok
  have hz2 := C2.out.lt
  obtain ⟨w4, hw4⟩ : ∃ x : World, w3.alloc (.cells #[.slice A0 n0 s0, .slice A1 n1 s1] 28) = x := ⟨_, rfl⟩
  have ga : w3.grownBy w4 none := by rw [← hw4]; exact gbA (gbR _ _) _
  have AG := Lib.hid (ag.grow ga)
  have K4 : Hid (Blk w4 w3.heap.size 28 #[.slice A0 n0 s0, .slice A1 n1 s1]) := by rw [← hw4]; exact Lib.hid (Blk.new _ _ _)
  have C4 := Lib.hid (c3.grow ga)
  have gc3 : w2.grownBy w4 (some g) := gbT g3 (gbW ga)
  have B4 := Lib.hid (B2.out.grown gc3 (by simp; omega))
  have T4 := Lib.hid (T2.out.grown gc3 (by simp; omega))
  have G4 := Lib.hid (gbN G2.out gc3 (fun b e => by injection e with e; omega))
  have hz3 := g3.size
  clear hok ag c3 g3 gc3 ga B2 T2 G2 C2
  go_wp2_with fail
  try rw [hw4]
  clear hw4
  refine (l13Input_c w4 g A n c bs C4.out).mono ?_
  rintro e w5 ⟨A2, c2, rfl, c5, g5⟩
  have C5 := Lib.hid c5
  have B5 := Lib.hid (B4.out.grown g5 (by simp; omega))
  have T5 := Lib.hid (T4.out.grown g5 (by simp; omega))
  have K5 := Lib.hid (K4.out.grown g5 (by simp; omega))
  have G5 := Lib.hid (gbN G4.out g5 (fun b e => by injection e with e; omega))
  have AG5 : Hid (aggF w2.heap.size (ccircuit m) (.agg #[.slice A0 n0 s0, .slice A1 n1 s1]) w5) := by
    obtain ⟨F, h1, h2⟩ := AG.out
    exact Lib.hid ⟨F, h1.chg (Chg.of (S := fun y => y = g) g5 (fun y h => by injection h with h; exact h.symm)) (fun y hy e => by have := h2 y hy; omega), h2⟩
  clear c5 g5 B4 T4 K4 G4 AG C4
  go_wp2_with fail
  obtain ⟨h, hh⟩ : ∃ h, w.heap.size = h := ⟨_, rfl⟩
  rw [hh] at B5 T5 hgz ⊢
  have HH := Lib.hid hh
  clear hh
  have hk3 : h + 1 < w3.heap.size := by omega
  have hkg : w3.heap.size ≠ g := by omega
  refine region_chain [.rd (.agg #[.slice A0 n0 s0, .slice A1 n1 s1]), .rd (.slice A2 80 c2), .rd (.pointer (some ⟨g, 0, none⟩)), .ch, .ch, .ch, .ch] (fun y => y = g ∨ y = h ∨ y = h + 1)
    [⟨[], fun _ w' => w' = w5.drew⟩,
     ⟨[17], fun l w' => GcA w5 g (l.getD 0 undef) w'⟩,
     ⟨[17], fun l w' => GcB w5 g h #[.slice A0 n0 s0, .slice A1 n1 s1] (l.getD 0 undef) w'⟩,
     ⟨[3, 17], fun l w' => l.getD 0 undef = .slice A2 80 c2 ∧ GcB w5 g h #[.slice A0 n0 s0, .slice A1 n1 s1] (l.getD 1 undef) w'⟩,
     ⟨[3], fun l w' => l.getD 0 undef = .slice A2 80 c2 ∧ Blk w' h 28 #[.slice A0 n0 s0, .slice A1 n1 s1] ∧ (∃ s a : Nat, Blk w' (h + 1) 65 #[.int .i64 s, .int .i64 a]) ∧ Chg (fun y => y = g ∨ y = h ∨ y = h + 1) w5 w'⟩]
    (by kernel_rfl) (by kernel_rfl) (by kernel_rfl) 4 (by kernel_rfl) (by simp only [flOk, and_true]) rfl rfl ?_ ?_
  · simp only [hopsK, hopK, Kd.next, and_true]
    refine ⟨?_, ?_, ?_, ?_, ?_, ?_, ?_⟩
    · intro f w4 hG hd
      have K6 := (K5.out.grow (gbD (gbR w5 none))).chg hG (fun e => by omega)
      have b0 := K6.cell 0
      have b1 := K6.cell 1
      simp at b0 b1
      clear K6
      (try simp [depsC, dstAt, kAt, bindE, List.filter_cons, bd_data, bd_chain, bd_guard, bd_phase, bd_text, bd_gc] at hd)
      (first | simp [puts, dsts, Act.put, hd] | simp [puts, dsts, Act.put])
      clear hd
      go_wp2_with fail
      exact ⟨rfl, rfl⟩
    · intro f w4 hG hd
      (try simp [depsC, dstAt, kAt, bindE, List.filter_cons, bd_data, bd_chain, bd_guard, bd_phase, bd_text, bd_gc] at hd)
      (first | simp [puts, dsts, Act.put, hd] | simp [puts, dsts, Act.put])
      clear hd
      go_wp2_with fail
      exact ⟨rfl, rfl⟩
    · intro f w4 hG hd
      (try simp [depsC, dstAt, kAt, bindE, List.filter_cons, bd_data, bd_chain, bd_guard, bd_phase, bd_text, bd_gc] at hd)
      (first | simp [puts, dsts, Act.put, hd] | simp [puts, dsts, Act.put])
      clear hd
      go_wp2_with fail
      exact ⟨rfl, rfl⟩
    · intro f w4 hG hI hd
      have hI : w4 = w5.drew := hI
      subst hI
      (try simp [depsC, dstAt, kAt, bindE, List.filter_cons, bd_data, bd_chain, bd_guard, bd_phase, bd_text, bd_gc] at hd)
      (first | simp [puts, dsts, Act.put, hd] | simp [puts, dsts, Act.put])
      clear hd
      go_wp2_with fail
      refine (l04Tape_c w5.drew g A n c bs (C5.out.grow (gbD (gbR w5 none)))).mono ?_
      rintro e w6 ⟨s, a, rfl, _, _, _, g6⟩
      have G6 := Lib.hid g6
      clear g6
      go_wp2_with fail
      exact ⟨_, rfl, ⟨s, a, rfl, Chg.of (gbT (gbW (gbD (gbR w5 none))) G6.out) (fun y hy => by injection hy with hy; exact hy.symm)⟩, ⟨Chg.of G6.out (fun y hy => .inl (by injection hy with hy; exact hy.symm)), by simp [keepsC, dstAt]⟩⟩
    · intro f w4 hG hI hd
      obtain ⟨s, a, e17, hch⟩ := hI
      have e17 : f 17 = .agg #[.int .i64 s, .int .i64 a] := e17
      have B6 := B5.out.chg hch (fun e => by omega)
      have b0 := B6.cell 0
      have b1 := B6.cell 1
      have f0 := B6.frozen 0
      have f1 := B6.frozen 1
      simp at b0 b1
      have RS := blk_setCells B6 [.slice A0 n0 s0, .slice A1 n1 s1] rfl
      have CH := chg_setCells h [.slice A0 n0 s0, .slice A1 n1 s1] 0 w4
      have H9 : Chg (fun y => y = g ∨ y = h) w5 (setCells w4 h 0 [.slice A0 n0 s0, .slice A1 n1 s1]) := (hch.mono fun y hy => .inl hy).trans (CH.mono fun y hy => .inr hy)
      have CW := CH.mono (T := fun y => y = g ∨ y = h ∨ y = h + 1) (fun y hy => .inr (.inl hy))
      simp only [setCells, Nat.zero_add, Nat.reduceAdd] at RS H9 CW
      have HRS := Lib.hid RS
      have HH9 := Lib.hid H9
      have HCW := Lib.hid CW
      clear B6 RS CH H9 CW hch
      (try simp [depsC, dstAt, kAt, bindE, List.filter_cons, bd_data, bd_chain, bd_guard, bd_phase, bd_text, bd_gc] at hd)
      simp [puts, dsts, Act.put, hd, e17]
      clear hd
      go_wp2_with fail
      exact ⟨rfl, ⟨.bool false, s, a, e17, HRS.out, HH9.out⟩, HCW.out, by simp [keepsC]⟩
    · intro f w4 hG hI hd
      have hS : GcB w5 g h #[.slice A0 n0 s0, .slice A1 n1 s1] (f 17) w4 := hI
      have HS := Lib.hid hS
      clear hS hI
      (try simp [depsC, dstAt, kAt, bindE, List.filter_cons, bd_data, bd_chain, bd_guard, bd_phase, bd_text, bd_gc] at hd)
      simp [puts, dsts, Act.put, hd]
      clear hd
      go_wp2_with fail
      exact ⟨_, rfl, ⟨rfl, HS.out⟩, Chg.refl _ _, by simp [keepsC]⟩
    · intro f w4 hG hI hd
      obtain ⟨e3, s, a, e17, hb, hch⟩ := hI
      have e3 : f 3 = .slice A2 80 c2 := e3
      have e17 : f 17 = .agg #[.int .i64 s, .int .i64 a] := e17
      have B6 := T5.out.chg hch (fun e => by omega)
      have b0 := B6.cell 0
      have b1 := B6.cell 1
      have f0 := B6.frozen 0
      have f1 := B6.frozen 1
      simp at b0 b1
      have RS := blk_setCells B6 [.int .i64 s, .int .i64 a] rfl
      have CH := chg_setCells (h + 1) [.int .i64 s, .int .i64 a] 0 w4
      have H9 : Chg (fun y => y = g ∨ y = h ∨ y = h + 1) w5 (setCells w4 (h + 1) 0 [.int .i64 s, .int .i64 a]) := (hch.mono fun y hy => hy.elim .inl (fun e => .inr (.inl e))).trans (CH.mono fun y hy => .inr (.inr hy))
      have HB9 := hb.chg CH (by omega)
      simp only [setCells, Nat.zero_add, Nat.reduceAdd] at RS H9 HB9
      have HRS := Lib.hid RS
      have HH9 := Lib.hid H9
      have HHB := Lib.hid HB9
      clear B6 RS CH H9 HB9 hch hb
      (try simp [depsC, dstAt, kAt, bindE, List.filter_cons, bd_data, bd_chain, bd_guard, bd_phase, bd_text, bd_gc] at hd)
      simp [puts, dsts, Act.put, hd, e17]
      clear hd
      go_wp2_with fail
      exact ⟨rfl, .bool false, e3, HHB.out, ⟨s, a, HRS.out⟩, HH9.out⟩
  intro f w8 hI hd
  simp only [puts, dsts, Act.put, List.filterMap_cons, List.filterMap_nil, List.setIfInBounds_toArray, List.set_cons_zero, List.set_cons_succ]
  obtain ⟨e3, hb, ⟨s, a, ht⟩, hch⟩ := hI
  have e3 : f 3 = .slice A2 80 c2 := e3
  rw [e3]
  have HB := Lib.hid hb
  have HT := Lib.hid ht
  obtain ⟨F, q1, q2⟩ := AG5.out
  have HA := Lib.hid (q1.chg hch (fun y hy e => by have := q2 y hy; omega)).rd
  have GZ := Lib.hid (gbChg G5.out hch (fun y hy => by have := HH.out; omega))
  clear hb ht hch hd e3 q1 q2
  go_wp2_with fail
  refine ret_ctc Try.results44 (by rfl) stCircuit (cs := #[.slice A0 n0 s0, .slice A1 n1 s1]) HB.out (by rfl) (by rfl) stTape (ds := #[.int .i64 s, .int .i64 a]) HT.out (by rfl) (by rfl) ?_
  exact ⟨undef, A0, A1, A2, n0, s0, n1, s1, c2, s, a, m, rfl, OK.out, hol, HA.out, GZ.out⟩
end Go.Proofs.Ythdfkiaoahpjpaa
