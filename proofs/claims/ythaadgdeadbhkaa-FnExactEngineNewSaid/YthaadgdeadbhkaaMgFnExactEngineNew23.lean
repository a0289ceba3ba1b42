/-
  MacCheck: reference and program; the sum of keys.
-/
import Derived.Test.YthaadgdeadbhkaaMgFnExactEngineNew22
namespace Go.Proofs.Ythaadgdeadbhkaa
open Go.RowKit
set_option linter.unusedVariables false
set_option linter.unusedSimpArgs false
def macCheck (k : KM) (o : Int) (a : AuM) : Bool := keysB k && elemB k.p o && ((a.mc.length : Int) == (k.al.length : Int)) && elemsB k.p a.mc && (fsum k.p a.mc == (o * fsum k.p k.al) % k.p)
theorem keys_is {k : KM} (h : keysB k = true) : fieldB k.p = true ∧ elemsB k.p k.al = true ∧ 1 ≤ k.al.length ∧ k.al.length ≤ 5 := by
  unfold keysB at h
  rw [Bool.and_eq_true] at h
  have := inQ_is h.2
  exact ⟨(elemsB_is h.1).1, h.1, by omega, by omega⟩
theorem specl23Key_y (k : KM) (kv : Value) (w : World) (h : AggR w (ckeys k) kv) (hk : keysB k = true) :
    Calls Try.prog 74 #[kv] w fun e w' => e = .returned (.int .i64 (fsum k.p k.al)) ∧ w.grownBy w' none := by
  obtain ⟨A, c, rfl, hc, hm, hI⟩ := ckeys_sl h
  obtain ⟨_, he, h1, h5⟩ := keys_is hk
  have HI := Lib.hid (hI.grow (gbA (gbR w none) (.cells #[.int .i64 k.p, .slice A k.al.length c] 26)))
  have HE := Lib.hid he
  clear h hI he hk
  go_enter Try.func74, Try.ntmps74
  go_wp2_with fail
  refine (specFSum_y k.p A k.al.length c k.al _ HE.out HI.out (by omega)).mono ?_
  rintro e w1 ⟨rfl, rfl⟩
  go_wp2_with fail
  go_ret
  exact ⟨rfl, gbA (gbR _ _) _⟩
end Go.Proofs.Ythaadgdeadbhkaa
/-
  shared: shares of an element (the program's own helper).
-/
namespace Go.Proofs.Ythaadgdeadbhkaa
open Go.RowKit
set_option linter.unusedVariables false
set_option linter.unusedSimpArgs false
set_option maxHeartbeats 2000000 in
theorem implshared_yes (P s a n : Nat) (x : Int) (w : World) (hx : elemB (P : Int) x = true) (hs : s < 4294967296) (ha : a ≤ 900010) (hn1 : 1 ≤ n) (hn : n ≤ 5) :
    Calls Try.prog 116 #[.int .i64 P, .int .i64 x, .int .i64 n, .agg #[.int .i64 s, .int .i64 a]] w fun e w' => ∃ v, e = .returned (.tuple #[v, .agg #[.int .i64 s, .int .i64 ((a + (n - 1) : Nat) : Int)]]) ∧ w'.ownsRow w.heap.size 3 1 v n ((shareL P x (tapeL s a P (n - 1))).map (Value.int .i64)) ∧ w.grownBy w' none := by
  obtain ⟨hf, p2, p101, x0, x1⟩ := elemB_is hx
  have HX := Lib.hid hx
  have HF := Lib.hid hf
  obtain ⟨m, rfl⟩ : ∃ m, n = m + 1 := ⟨n - 1, by omega⟩
  rw [Nat.add_sub_cancel]
  clear hx hf
  go_enter Try.func116, Try.ntmps116
  have B1 := Lib.hid (Blk.new' (w.alloc (.cells #[.int .i64 s, .int .i64 a] 31)) 31 #[.int .i64 0, .int .i64 0] (w.heap.size + 1) (by simp))
  have G1 := Lib.hid (gbA (gbA (gbR w none) (.cells #[.int .i64 s, .int .i64 a] 31)) (.cells #[.int .i64 0, .int .i64 0] 31))
  have em : ((m + 1 : Nat) : Int) - 1 = (m : Int) := by omega
  go_wp2_with fail
  refine (implTapeList_yes s a P m _ hs (by omega) (by omega) (by omega) (by omega)).mono ?_
  rintro e w2 ⟨v, rfl, o2, g2⟩
  obtain ⟨A, c, rfl, _, _⟩ := own_form o2
  have z1 := g2.size
  simp at z1
  have HL := Lib.hid (own_base (base' := w.heap.size + 2) o2 (by simp))
  have HE := Lib.hid (elems_tape (s := s) (a := a) (k := m) HF.out (by omega))
  have B2 := Lib.hid (B1.out.grow g2)
  have G2 := Lib.hid (gbT G1.out g2)
  obtain ⟨L, hL⟩ : ∃ L, tapeL s a P m = L := ⟨_, rfl⟩
  rw [hL] at HL HE
  have HLL := Lib.hid hL
  have w0 : 0 ≤ fsum (P : Int) L := (fsum_rng p2 L).1
  have E := Lib.hid (fsum_elem HF.out L)
  clear g2 o2 B1 hL
  go_wp2_with fail
  obtain ⟨w3, hw3⟩ : ∃ x : World, w2.alloc (.cells #[.int .i64 s, .int .i64 ((a : Int) + (m : Int))] 31) = x := ⟨_, rfl⟩
  have B3 : Hid (Blk w3 (w.heap.size + 1) 31 #[.int .i64 0, .int .i64 0]) := by rw [← hw3]; exact B2.out.grow (gbA (gbR _ _) _)
  have N3 : Hid (Blk w3 w2.heap.size 31 #[.int .i64 s, .int .i64 ((a : Int) + (m : Int))]) := by rw [← hw3]; exact Blk.new _ _ _
  have G3 : Hid (w.grownBy w3 none) := by rw [← hw3]; exact gbA G2.out _
  have HL3 : Hid (w3.ownsRow (w.heap.size + 2) 3 1 (.slice A m c) m (L.map (Value.int .i64))) := by rw [← hw3]; exact own_grow HL.out (gbA (gbR _ _) _)
  have HLB := Lib.hid (fun g hg => (HL.out.lt g hg).2)
  have hloW : w.heap.size + 2 ≤ w3.heap.size := by rw [← hw3]; simp; omega
  rw [hw3]
  clear hw3 HL B2 G2
  obtain ⟨lo, hlo⟩ : ∃ lo, w.heap.size + 2 = lo := ⟨_, rfl⟩
  obtain ⟨gR, hgR⟩ : ∃ g, w.heap.size + 1 = g := ⟨_, rfl⟩
  rw [hlo] at HL3 hloW
  rw [hgR] at B3 ⊢
  refine region_chain [.rd (.slice A m c), .rd (.int .i64 (P : Int)), .rd (.int .i64 x), .rd (.int .i64 (P : Int)), .rd (.slice A m c), .ch, .ch, .ch, .ch, .rd (.agg #[.int .i64 s, .int .i64 ((a : Int) + (m : Int))]), .ch, .ch] (fun y => (Value.slice A m c).ownBlock = some y)
    [⟨[], fun _ w' => w3.drew.grownBy w' none⟩,
     ⟨[25], fun l w' => l.getD 0 undef = .int .i64 (fsum (P : Int) L) ∧ w3.drew.grownBy w' none⟩,
     ⟨[26], fun l w' => l.getD 0 undef = .int .i64 ((x - fsum (P : Int) L) % (P : Int)) ∧ w3.drew.grownBy w' none⟩,
     ⟨[27], fun l w' => lit1X w3.heap.size 3 #[.int .i64 ((x - fsum (P : Int) L) % (P : Int))] (l.getD 0 undef) w' ∧ w3.drew.grownBy w' none⟩,
     ⟨[28], fun l w' => w'.ownsRow lo 3 1 (l.getD 0 undef) (m + 1) ((shareL (P : Int) x L).map (Value.int .i64)) ∧ Chg (fun y => (Value.slice A m c).ownBlock = some y) w3.drew w'⟩,
     ⟨[8], fun l w' => w'.ownsRow lo 3 1 (l.getD 0 undef) (m + 1) ((shareL (P : Int) x L).map (Value.int .i64)) ∧ Chg (fun y => (Value.slice A m c).ownBlock = some y) w3.drew w'⟩,
     ⟨[8], fun l w' => w'.ownsRow lo 3 1 (l.getD 0 undef) (m + 1) ((shareL (P : Int) x L).map (Value.int .i64)) ∧ Chg (fun y => (Value.slice A m c).ownBlock = some y ∨ y = gR) w3.drew w' ∧ Blk w' gR 31 #[.int .i64 s, .int .i64 ((a : Int) + (m : Int))]⟩]
    (by kernel_rfl) (by kernel_rfl) (by kernel_rfl) 6 (by kernel_rfl) (by simp only [flOk, and_true]) (gbR _ _) rfl ?_ ?_
  · simp only [hopsK, hopK, Kd.next, and_true]
    refine ⟨?_, ?_, ?_, ?_, ?_, ?_, ?_, ?_, ?_, ?_, ?_, ?_⟩
    · (intro f w4 hG hd; (try simp [depsC, dstAt, kAt, bindE, List.filter_cons, bd_data, bd_chain, bd_guard, bd_phase, bd_text, bd_gc] at hd); (first | simp [puts, dsts, Act.put, hd] | simp [puts, dsts, Act.put]); go_wp2_with fail; exact ⟨rfl, rfl⟩)
    · (intro f w4 hG hd; (try simp [depsC, dstAt, kAt, bindE, List.filter_cons, bd_data, bd_chain, bd_guard, bd_phase, bd_text, bd_gc] at hd); (first | simp [puts, dsts, Act.put, hd] | simp [puts, dsts, Act.put]); go_wp2_with fail; exact ⟨rfl, rfl⟩)
    · (intro f w4 hG hd; (try simp [depsC, dstAt, kAt, bindE, List.filter_cons, bd_data, bd_chain, bd_guard, bd_phase, bd_text, bd_gc] at hd); (first | simp [puts, dsts, Act.put, hd] | simp [puts, dsts, Act.put]); go_wp2_with fail; exact ⟨rfl, rfl⟩)
    · (intro f w4 hG hd; (try simp [depsC, dstAt, kAt, bindE, List.filter_cons, bd_data, bd_chain, bd_guard, bd_phase, bd_text, bd_gc] at hd); (first | simp [puts, dsts, Act.put, hd] | simp [puts, dsts, Act.put]); go_wp2_with fail; exact ⟨rfl, rfl⟩)
    · (intro f w4 hG hd; (try simp [depsC, dstAt, kAt, bindE, List.filter_cons, bd_data, bd_chain, bd_guard, bd_phase, bd_text, bd_gc] at hd); (first | simp [puts, dsts, Act.put, hd] | simp [puts, dsts, Act.put]); go_wp2_with fail; exact ⟨rfl, rfl⟩)
    · intro f w4 hG hI hd
      have hI : w3.drew.grownBy w4 none := hI
      (try simp [depsC, dstAt, kAt, bindE, List.filter_cons, bd_data, bd_chain, bd_guard, bd_phase, bd_text, bd_gc] at hd)
      (first | simp [puts, dsts, Act.put, hd] | simp [puts, dsts, Act.put])
      go_wp2_with fail
      refine (implFSum_y (P : Int) A m c L _ HE.out (Ints.grow (show Ints w3 A m L from Rd.ofOwn HL3.out) (gbT (gbD (gbR _ none)) hI)) (by omega)).mono ?_
      rintro e w5 ⟨rfl, rfl⟩
      go_wp2_with fail
      exact ⟨_, rfl, ⟨rfl, hI⟩, ⟨Chg.refl _ _, by simp [keepsC]⟩⟩
    · intro f w4 hG hI hd
      obtain ⟨hv, hI⟩ := hI
      have hv : f 25 = .int .i64 (fsum (P : Int) L) := hv
      (try simp [depsC, dstAt, kAt, bindE, List.filter_cons, bd_data, bd_chain, bd_guard, bd_phase, bd_text, bd_gc] at hd)
      simp [puts, dsts, Act.put, hd, hv]
      go_wp2_with fail
      refine (implFSub_y (P : Int) x (fsum (P : Int) L) _ HX.out E.out).mono ?_
      rintro e w5 ⟨rfl, g5⟩
      have G5 := Lib.hid g5
      clear g5
      go_wp2_with fail
      exact ⟨_, rfl, ⟨rfl, gbT hI G5.out⟩, ⟨Chg.of G5.out (by simp), by simp [keepsC]⟩⟩
    · intro f w4 hG hI hd
      obtain ⟨hv, hI⟩ := hI
      have hv : f 26 = .int .i64 ((x - fsum (P : Int) L) % (P : Int)) := hv
      have hz := hI.size
      (try simp [depsC, dstAt, kAt, bindE, List.filter_cons, bd_data, bd_chain, bd_guard, bd_phase, bd_text, bd_gc] at hd)
      simp [puts, dsts, Act.put, hv]
      go_wp2_with fail
      exact ⟨_, rfl, ⟨⟨_, rfl, by simpa using hz, Blk.new w4 _ _⟩, gbA hI _⟩, ⟨Chg.of (gbA (gbR w4 none) _) (by simp), by simp [keepsC]⟩⟩
    · intro f w4 hG hI hd
      obtain ⟨⟨g9, hv, hg9, B9⟩, hI⟩ := hI
      have hv : f 27 = .slice (some ⟨g9, 0, none⟩) 1 1 := hv
      have n0 := B9.cell 0
      simp at n0
      (try simp [depsC, dstAt, kAt, bindE, List.filter_cons, bd_data, bd_chain, bd_guard, bd_phase, bd_text, bd_gc] at hd)
      simp [puts, dsts, Act.put, hd, hv]
      refine wp_appendA w4 el_int rfl (.tmp 20) (.tmp 27) rfl lo _ _ _ (own_grow HL3.out (gbT (gbD (gbR _ none)) hI)) rfl ⟨g9, 0, none⟩ 1 1 [.int .i64 ((x - fsum (P : Int) L) % (P : Int))] rfl rfl ?_ (by simp [Value.oneCell']) (by unfold maxLen; omega) (by omega) (by have := hI.size; simp at this; omega) ?_
      · intro j u hu
        have hadd : (⟨g9, 0, none⟩ : Addr).add j = ⟨g9, j, none⟩ := by unfold Addr.add; split <;> simp_all
        rw [hadd]
        match j, hu with
        | 0, hu => simp at hu; rw [n0, hu]
        | j + 1, hu => simp at hu
      intro v' w6 o8 g8 k8
      have O8 : Hid (w6.ownsRow lo 3 1 v' (m + 1) ((shareL (P : Int) x L).map (Value.int .i64))) := by unfold Hid shareL; rw [List.map_append]; exact o8
      have C8 := Lib.hid ((Chg.of (S := fun y => (Value.slice A m c).ownBlock = some y) hI (by simp)).trans (Chg.of g8 (fun g h => h)))
      have D8 := Lib.hid (Chg.of (S := fun y => (Value.slice A m c).ownBlock = some y) g8 (fun g h => h))
      clear o8 g8 k8
      go_wp2_with fail
      exact ⟨_, rfl, ⟨O8.out, C8.out⟩, ⟨D8.out, by simp [keepsC]⟩⟩
    · intro f w4 hG hd
      have t4 := ((N3.out.grow (gbD (gbR w3 none)))).chg hG (fun e => by have := HLB.out _ e; omega)
      have t0 := t4.cell 0
      have t1 := t4.cell 1
      simp at t0 t1
      clear hd
      simp [puts, dsts, Act.put]
      go_wp2_with fail
      exact ⟨rfl, rfl⟩
    · intro f w4 hG hI hd
      obtain ⟨ho, hI⟩ := hI
      have ho : w4.ownsRow lo 3 1 (f 28) (m + 1) ((shareL (P : Int) x L).map (Value.int .i64)) := ho
      clear hd
      simp [puts, dsts, Act.put]
      go_wp2_with fail
      exact ⟨_, rfl, ⟨ho, hI⟩, ⟨Chg.refl _ _, by simp [keepsC]⟩⟩
    · intro f w4 hG hI hd
      obtain ⟨ho, hI⟩ := hI
      have ho : w4.ownsRow lo 3 1 (f 8) (m + 1) ((shareL (P : Int) x L).map (Value.int .i64)) := ho
      have R4 := ((B3.out.grow (gbD (gbR w3 none)))).chg hI (fun e => by have := ((HL3.out).lt _ e).1; omega)
      have f0 := R4.frozen 0
      have f1 := R4.frozen 1
      have b0 := R4.cell 0
      have b1 := R4.cell 1
      simp at b0 b1
      have RS := Lib.hid (blk_setCells R4 [.int .i64 s, .int .i64 ((a : Int) + (m : Int))] rfl)
      have CH := Lib.hid ((hI.mono (T := fun y => (Value.slice A m c).ownBlock = some y ∨ y = gR) (fun y h => .inl h)).trans ((chg_setCells gR [.int .i64 s, .int .i64 ((a : Int) + (m : Int))] 0 w4).mono (fun y h => .inr h)))
      have OS := Lib.hid (Chg.own ho (chg_setCells gR [.int .i64 s, .int .i64 ((a : Int) + (m : Int))] 0 w4) (fun g hg (e : g = gR) => by have := (ho.lt g hg).1; omega))
      clear R4 hI ho
      (try simp [depsC, dstAt, kAt, bindE, List.filter_cons, bd_data, bd_chain, bd_guard, bd_phase, bd_text, bd_gc] at hd)
      simp [puts, dsts, Act.put, hd]
      go_wp2_with fail
      exact ⟨rfl, .bool false, OS.out, CH.out, RS.out⟩
  intro f w5 hI hd
  obtain ⟨hOS, hCS, hBS⟩ := hI
  have hCS := chgDr hCS
  have hOS : w5.ownsRow lo 3 1 (f 8) (m + 1) ((shareL (P : Int) x L).map (Value.int .i64)) := hOS
  obtain ⟨A9_, c9_, e9_, _, _⟩ := own_form hOS
  rw [e9_] at hOS
  simp only [puts, dsts, Act.put, e9_, List.filterMap_cons, List.filterMap_nil, List.setIfInBounds_toArray, List.set_cons_zero, List.set_cons_succ]
  clear hd e9_
  have GZ := Lib.hid (gbChg G3.out hCS (fun y hy => by
    rcases hy with hy | hy
    · have := (HL3.out.lt y hy).1; omega
    · omega))
  go_wp2_with fail
  refine ret_tc Try.results116 (by rfl) stTape (cs := #[.int .i64 s, .int .i64 ((a : Int) + (m : Int))]) hBS (by rfl) (by rfl) ?_
  exact ⟨_, by rw [show ((a + m : Nat) : Int) = (a : Int) + (m : Int) by omega], by rw [HLL.out]; exact own_base hOS (by omega), GZ.out⟩
end Go.Proofs.Ythaadgdeadbhkaa
