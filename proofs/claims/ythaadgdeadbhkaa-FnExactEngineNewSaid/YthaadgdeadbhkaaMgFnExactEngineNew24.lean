/-
  AuthNew of the program.
-/
import Derived.Test.YthaadgdeadbhkaaMgFnExactEngineNew23
namespace Go.Proofs.Ythaadgdeadbhkaa
open Go.RowKit
set_option linter.unusedVariables false
set_option linter.unusedSimpArgs false
def authNew (k : KM) (P s a : Nat) (x : Int) : AuM := ⟨shareL k.p x (tapeL s a P (k.al.length - 1)), shareL k.p ((x * fsum k.p k.al) % k.p) (tapeL s (a + (k.al.length - 1)) P (k.al.length - 1))⟩
def shT2 (lo n : Nat) (L : List Int) (t : Value) (v : Value) (w : World) : Prop := ∃ A c, v = .tuple #[.slice A n c, t] ∧ w.ownsRow lo 3 1 (.slice A n c) n (L.map (Value.int .i64))
theorem shT2_st {lo n : Nat} {L : List Int} {t : Value} : stable (shT2 lo n L t) := fun v w w' ⟨A, c, h1, h2⟩ hg => ⟨A, c, h1, own_grow h2 hg⟩
theorem shT2_chg {lo n g : Nat} {L : List Int} {t v : Value} {w w' : World} (h : shT2 lo n L t v w) (k : Chg (fun y => y = g) w w') (hg : g < lo) : shT2 lo n L t v w' := by
  obtain ⟨A, c, h1, h2⟩ := h
  exact ⟨A, c, h1, Chg.own h2 k (fun x hx (e : x = g) => by have := (h2.lt x hx).1; omega)⟩
theorem row1_chg {lo n g : Nat} {L : List Int} {v : Value} {w w' : World} (h : row1 lo n L v w) (k : Chg (fun y => y = g) w w') (hg : g < lo) : row1 lo n L v w' := by
  obtain ⟨A, c, h1, h2⟩ := h
  exact ⟨A, c, h1, Chg.own h2 k (fun x hx (e : x = g) => by have := (h2.lt x hx).1; omega)⟩
theorem autF.chg2 {lo g g' : Nat} {m : AuM} {v : Value} {w w' : World} (h : autF lo m v w) (k : Chg (fun y => y = g ∨ y = g') w w') (hg : g < lo) (hg' : g' < lo) : autF lo m v w' := by
  obtain ⟨F, h1, h2⟩ := h
  exact ⟨F, h1.chg k (fun x hx e => by have := h2 x hx; rcases e with e | e <;> omega), h2⟩
theorem row1_st {lo n : Nat} {L : List Int} : stable (row1 lo n L) := fun v w w' h hg => h.grow hg
set_option maxHeartbeats 2000000 in
set_option maxRecDepth 100000 in
theorem implAuthNew_yes (k : KM) (P s a : Nat) (x : Int) (kv : Value) (w0 : World) (h : AggR w0 (ckeys k) kv) (wk : kwf k) (hk : keysB k = true) (hP : k.p = P) (hx : elemB k.p x = true) (hs : s < 4294967296) (ha : a ≤ 900000) :
    Calls Try.prog 53 #[kv, .int .i64 x, .agg #[.int .i64 s, .int .i64 a]] w0 fun e w' => ∃ v, e = .returned (.tuple #[v, .agg #[.int .i64 s, .int .i64 ((a + (k.al.length - 1) + (k.al.length - 1) : Nat) : Int)]]) ∧ autF w0.heap.size (authNew k P s a x) v w' ∧ w0.grownBy w' none := by
  obtain ⟨A, c, rfl, hc, hm, hI⟩ := ckeys_sl h
  obtain ⟨p, al⟩ := k
  simp only at hP
  subst hP
  obtain ⟨kf, ke, n1, n5⟩ := keys_is hk
  obtain ⟨p2, p101⟩ := field_range kf
  simp only at n1 n5 ke kf p2 p101
  obtain ⟨w1, hw1⟩ : ∃ y : World, (((w0.alloc (.cells #[.int .i64 P, .slice A al.length c] 26)).alloc (.cells #[.int .i64 s, .int .i64 a] 31)).alloc (.cells #[.slice none 0 0, .slice none 0 0] 44)).alloc (.cells #[.int .i64 0, .int .i64 0] 31) = y := ⟨_, rfl⟩
  have G1 : Hid (w0.grownBy w1 none) := by rw [← hw1]; exact gbA (gbA (gbA (gbA (gbR _ _) _) _) _) _
  have z1 : Hid (w1.heap.size = w0.heap.size + 4) := by rw [← hw1]; exact Lib.hid (by simp)
  have D0 : Hid (Blk w1 w0.heap.size 26 #[.int .i64 P, .slice A al.length c]) := by rw [← hw1]; exact (((Blk.new w0 _ _).grow (gbA (gbR _ _) _)).grow (gbA (gbR _ _) _)).grow (gbA (gbR _ _) _)
  have D1 : Hid (Blk w1 (w0.heap.size + 1) 31 #[.int .i64 s, .int .i64 a]) := by rw [← hw1]; exact ((Blk.new' _ _ _ _ (by simp)).grow (gbA (gbR _ _) _)).grow (gbA (gbR _ _) _)
  have D2 : Hid (Blk w1 (w0.heap.size + 1 + 1) 44 #[.slice none 0 0, .slice none 0 0]) := by rw [← hw1]; exact (Blk.new' _ _ _ _ (by simp)).grow (gbA (gbR _ _) _)
  have D3 : Hid (Blk w1 (w0.heap.size + 1 + 1 + 1) 31 #[.int .i64 0, .int .i64 0]) := by rw [← hw1]; exact Blk.new' _ _ _ _ (by simp)
  have LA : Hid (∀ b, A = some b → b.block < w0.heap.size) := Lib.hid (fun b hb => by
    obtain ⟨b', o', e', hb', _⟩ := hI.at_ (show 0 < al.length from n1)
    rw [hb] at e'; injection e' with e'; rw [e']; exact hb')
  have HK := Lib.hid (AggR.grow h G1.out)
  have IK := Lib.hid (hI.grow G1.out)
  have WK := Lib.hid wk
  have KB := Lib.hid hk
  have EX := Lib.hid hx
  have KE := Lib.hid ke
  have KF := Lib.hid kf
  have TB := Lib.hid (tape_yes hs (show a ≤ 1000000 by omega))
  have da : ¬ (900000 : Int) < (a : Int) := by omega
  clear h hI wk hk hx ke kf
  go_enter Try.func53, Try.ntmps53
  have k0 := D0.out.cell 0
  have k1 := D0.out.cell 1
  simp at k0 k1
  go_wp2_with fail
  clear hw1 k0 k1
  refine (implKeysOk_c ⟨P, al⟩ _ _ HK.out WK.out).mono ?_
  rintro e w2 ⟨rfl, g2⟩
  rw [KB.out]
  have k0 := (D0.out.grow g2).cell 0
  have k1 := (D0.out.grow g2).cell 1
  have t0 := (D1.out.grow g2).cell 0
  have t1 := (D1.out.grow g2).cell 1
  simp at k0 k1 t0 t1
  have Q2 := Lib.hid g2
  clear g2
  go_wp2_with fail
  refine (implIsElement_q P x _ (by omega) (by omega)).mono ?_
  rintro e w3 ⟨rfl, rfl⟩
  rw [EX.out]
  go_wp2_with fail
  refine (implTapeOk_c s a _).mono ?_
  rintro e w3 ⟨rfl, g3⟩
  rw [TB.out]
  have g13 := gbT Q2.out g3
  have D0' := Lib.hid (D0.out.grow g13)
  have D1' := Lib.hid (D1.out.grow g13)
  have D2' := Lib.hid (D2.out.grow g13)
  have D3' := Lib.hid (D3.out.grow g13)
  have IK' := Lib.hid (IK.out.grow g13)
  have G3 := Lib.hid (gbT G1.out g13)
  have z3 : w0.heap.size + 4 ≤ w3.heap.size := by have := z1.out; have := g13.size; omega
  have t1' := D1'.out.cell 1
  simp at t1'
  clear g3 g13 Q2 k0 k1 t0 t1 D0 D1 D2 D3 IK G1 HK
  obtain ⟨gB, hgB⟩ : ∃ g, w3.heap.size = g := ⟨_, rfl⟩
  obtain ⟨w4, hw4⟩ : ∃ y : World, w3.alloc (.cells #[.slice none 0 0, .slice none 0 0] 44) = y := ⟨_, rfl⟩
  have hgr : w3.grownBy w4 none := by rw [← hw4]; exact gbA (gbR _ _) _
  have D0 := Lib.hid (D0'.out.grow hgr)
  have D1 := Lib.hid (D1'.out.grow hgr)
  have D2 := Lib.hid (D2'.out.grow hgr)
  have D3 := Lib.hid (D3'.out.grow hgr)
  have IK := Lib.hid (IK'.out.grow hgr)
  have G4 := Lib.hid (gbT G3.out hgr)
  have DB : Hid (Blk w4 gB 44 #[.slice none 0 0, .slice none 0 0]) := by rw [← hw4, ← hgB]; exact Blk.new _ _ _
  have z4 : Hid (w4.heap.size = gB + 1) := by rw [← hw4, ← hgB]; exact Lib.hid (by simp)
  rw [hgB] at z3
  have k0 := D0'.out.cell 0
  have k1 := D0'.out.cell 1
  have t0 := D1'.out.cell 0
  have t1 := D1'.out.cell 1
  simp at k0 k1 t0 t1
  have q0 := fun o => kA k0 o
  have q1 := fun o => kA k1 o
  have q2 := fun o => kA t0 o
  have q3 := fun o => kA t1 o
  have HW4 := Lib.hid hw4
  clear hgr D0' D1' D2' D3' IK' G3 hw4
  go_wp2_with fail
  rw [HW4.out]
  clear HW4 k0 k1 t0 t1 t1' q0 q1 q2 q3
  refine (implshared_yes P s a al.length x w4 EX.out hs (by omega) n1 n5).mono ?_
  rintro e w5 ⟨v1, rfl, o1, g5⟩
  obtain ⟨A1, c1, rfl, _, _⟩ := own_form o1
  obtain ⟨T1, hT1⟩ : ∃ T, a + (al.length - 1) = T := ⟨_, rfl⟩
  rw [hT1]
  have HT1 := Lib.hid hT1
  have z5 := g5.size
  rw [z4.out] at z5 o1
  have D0' := Lib.hid (D0.out.grow g5)
  have D1' := D1.out.grow g5
  have D2' := Lib.hid (D2.out.grow g5)
  have D3' := Lib.hid (D3.out.grow g5)
  have IK' := Lib.hid (IK.out.grow g5)
  have DB' := DB.out.grow g5
  have G5 := Lib.hid (gbT G4.out g5)
  have f0 := DB'.frozen 0
  have e0 := DB'.cell 0
  have f1 := D1'.frozen 0
  have f2 := D1'.frozen 1
  have e1 := D1'.cell 0
  have e2 := D1'.cell 1
  simp at e0 e1 e2
  have CB := Lib.hid (chgS w5 gB 0 (.slice A1 al.length c1))
  have CT := Lib.hid (chg_setCells (w0.heap.size + 1) [.int .i64 s, .int .i64 (T1 : Int)] 0 (w5.setCell ⟨gB, 0, none⟩ (.slice A1 al.length c1)))
  have DB6 := Lib.hid ((DB'.set_ 0 (.slice A1 al.length c1)).chg CT.out (by omega))
  have D16 := Lib.hid (blk_setCells (D1'.chg CB.out (by omega)) [.int .i64 s, .int .i64 (T1 : Int)] rfl)
  have D06 := Lib.hid ((D0'.out.chg CB.out (by omega)).chg CT.out (by omega))
  have D26 := Lib.hid ((D2'.out.chg CB.out (by omega)).chg CT.out (by omega))
  have D36 := Lib.hid ((D3'.out.chg CB.out (by omega)).chg CT.out (by omega))
  have O16 := Lib.hid (own_rebase (base' := gB + 1) (Chg.own (Chg.own o1 CB.out (fun g hg (e : g = gB) => by have := (o1.lt g hg).1; omega)) CT.out (fun g hg (e : g = w0.heap.size + 1) => by have := (o1.lt g hg).1; omega)) (fun g hg => (o1.lt g hg).1))
  have IK6 := Lib.hid (Chg.rd (Chg.rd IK'.out CB.out (fun b hb (e : b.block = gB) => by have := LA.out b hb; omega)) CT.out (fun b hb (e : b.block = w0.heap.size + 1) => by have := LA.out b hb; omega))
  have G6 := Lib.hid (gb_chg (gb_chg G5.out CB.out (by omega)) CT.out (by omega))
  obtain ⟨w6, hw6⟩ : ∃ y, setCells (w5.setCell ⟨gB, 0, none⟩ (.slice A1 al.length c1)) (w0.heap.size + 1) 0 [.int .i64 s, .int .i64 (T1 : Int)] = y := ⟨_, rfl⟩
  have z6 : gB + 1 ≤ w6.heap.size := by rw [← hw6]; simp [setCells]; omega
  rw [hw6] at DB6 D16 D06 D26 D36 O16 IK6 G6
  have HW6 := Lib.hid hw6
  clear g5 D0 D1 D2 D3 IK DB G4 D0' D2' D3' IK' o1 D1' DB' CB CT hw6
  go_wp2_with fail
  rw [show ((w5.setCell ⟨gB, 0, none⟩ (.slice A1 al.length c1)).setCell ⟨w0.heap.size + 1, 0, none⟩ (.int .i64 s)).setCell ⟨w0.heap.size + 1, 1, none⟩ (.int .i64 (T1 : Int)) = w6 from HW6.out]
  clear f0 f1 f2 e0 e1 e2 HW6
  obtain ⟨n, hn⟩ : ∃ n, al.length = n := ⟨_, rfl⟩
  have HN := Lib.hid hn
  obtain ⟨S2, hS2⟩ : ∃ z, fsum (P : Int) al = z := ⟨_, rfl⟩
  have HS2 := Lib.hid hS2
  have FE : Hid (elemB (P : Int) S2 = true) := by rw [← hS2]; exact Lib.hid (fsum_elem KF.out al)
  obtain ⟨y, hy⟩ : ∃ z, (x * S2) % (P : Int) = z := ⟨_, rfl⟩
  have HY := Lib.hid hy
  have EY : Hid (elemB (P : Int) y = true) := by rw [← hy]; exact Lib.hid (femod_elem KF.out _)
  obtain ⟨L2, hL2⟩ : ∃ l, shareL (P : Int) y (tapeL s T1 P (al.length - 1)) = l := ⟨_, rfl⟩
  have HL2 := Lib.hid hL2
  obtain ⟨gT, hgT⟩ : ∃ g, w0.heap.size + 1 = g := ⟨_, rfl⟩
  have hgTB : gT < gB := by omega
  have hw0T : w0.heap.size ≤ gT := by omega
  have T1b : T1 ≤ 900004 := by omega
  rw [hgT] at D16 D26 D36 ⊢
  rw [hn] at IK6 O16 DB6 D06 HL2 n1 n5 ⊢
  clear hn hS2 hy hL2 hT1
  refine region_chain [.rd (.pointer (some ⟨w0.heap.size, 0, none⟩)), .rd (.int .i64 P), .rd (.pointer (some ⟨w0.heap.size, 0, none⟩)), .rd (.int .i64 P), .rd (.int .i64 x), .rd (.pointer (some ⟨w0.heap.size, 0, none⟩)), .rd (.int .i64 P), .rd (.pointer (some ⟨w0.heap.size, 1, none⟩)), .rd (.slice A n c), .rd (.int .i64 S2), .fl (isV (.int .i64 y)), .rd (.pointer (some ⟨w0.heap.size, 1, none⟩)), .rd (.slice A n c), .rd (.int .i64 n), .rd (.agg #[.int .i64 s, .int .i64 T1]), .fl (shT2 w6.heap.size n L2 (.agg #[.int .i64 s, .int .i64 ((T1 + (n - 1) : Nat) : Int)])), .fl (shT2 w6.heap.size n L2 (.agg #[.int .i64 s, .int .i64 ((T1 + (n - 1) : Nat) : Int)])), .fl (row1 w6.heap.size n L2), .rd (.agg #[.int .i64 s, .int .i64 ((T1 + (n - 1) : Nat) : Int)]), .rd (.pointer (some ⟨gB, 1, none⟩)), .ch, .ch] (fun z => z = gB)
    [⟨[], fun _ w' => w6.drew.grownBy w' none⟩,
     ⟨[], fun _ w' => (∃ A2 c2, w'.ownsRow w6.heap.size 3 1 (.slice A2 n c2) n (L2.map (Value.int .i64)) ∧ Blk w' gB 44 #[.slice A1 n c1, .slice A2 n c2]) ∧ Chg (fun z => z = gB) w6.drew w'⟩,
     ⟨[], fun _ w' => (∃ A2 c2, w'.ownsRow w6.heap.size 3 1 (.slice A2 n c2) n (L2.map (Value.int .i64)) ∧ Blk w' gB 44 #[.slice A1 n c1, .slice A2 n c2]) ∧ Blk w' gT 31 #[.int .i64 s, .int .i64 ((T1 + (n - 1) : Nat) : Int)] ∧ Chg (fun z => z = gB ∨ z = gT) w6.drew w'⟩]
    (by kernel_rfl) (by kernel_rfl) (by kernel_rfl) 2 (by kernel_rfl) ?_ (gbR _ _) rfl ?_ ?_
  · have hst : stablesF [⟨[], fun _ w' => w6.drew.grownBy w' none⟩,
     ⟨[], fun _ w' => (∃ A2 c2, w'.ownsRow w6.heap.size 3 1 (.slice A2 n c2) n (L2.map (Value.int .i64)) ∧ Blk w' gB 44 #[.slice A1 n c1, .slice A2 n c2]) ∧ Chg (fun z => z = gB) w6.drew w'⟩,
     ⟨[], fun _ w' => (∃ A2 c2, w'.ownsRow w6.heap.size 3 1 (.slice A2 n c2) n (L2.map (Value.int .i64)) ∧ Blk w' gB 44 #[.slice A1 n c1, .slice A2 n c2]) ∧ Blk w' gT 31 #[.int .i64 s, .int .i64 ((T1 + (n - 1) : Nat) : Int)] ∧ Chg (fun z => z = gB ∨ z = gT) w6.drew w'⟩] := by
      intro F hF
      simp only [List.mem_cons, List.not_mem_nil, or_false] at hF
      rcases hF with rfl | rfl | rfl
      · exact fun l w1 w2 h hg => gbT h hg
      · rintro l w1 w2 ⟨⟨A2, c2, h1, h2⟩, h3⟩ hg
        exact ⟨⟨A2, c2, own_grow h1 hg, h2.grow hg⟩, h3.trans (Chg.of hg (by simp))⟩
      · rintro l w1 w2 ⟨⟨A2, c2, h1, h2⟩, h4, h3⟩ hg
        exact ⟨⟨A2, c2, own_grow h1 hg, h2.grow hg⟩, h4.grow hg, h3.trans (Chg.of hg (by simp))⟩
    simp only [flOk, true_and, and_true]
    exact ⟨⟨isV_st _, hst⟩, ⟨shT2_st, hst⟩, ⟨shT2_st, hst⟩, row1_st, hst⟩
  · simp only [hopsK, hopK, Kd.next, and_true]
    refine ⟨?_, ?_, ?_, ?_, ?_, ?_, ?_, ?_, ?_, ?_, ?_, ?_, ?_, ?_, ?_, ?_, ?_, ?_, ?_, ?_, ?_, ?_⟩
    rotate_left 9
    · intro f w9 hG hd
      have I9 := Lib.hid (Chg.rd (w' := w9) (Rd.grow IK6.out (gbD (gbR w6 none))) hG (fun b hb (e : b.block = gB) => by have := LA.out b hb; omega))
      (try simp [depsC, dstAt, kAt, bindE, List.filter_cons, bd_data, bd_chain, bd_guard, bd_phase, bd_text, bd_gc] at hd)
      (first | simp [puts, dsts, Act.put, hd] | simp [puts, dsts, Act.put])
      clear hd
      go_wp2_with fail
      refine (implFSum_y P A n c al _ KE.out I9.out (by omega)).mono ?_
      rintro e w10 ⟨rfl, rfl⟩
      rw [HS2.out]
      go_wp2_with fail
      exact ⟨rfl, rfl⟩
    · intro f w9 hG hd
      (try simp [depsC, dstAt, kAt, bindE, List.filter_cons, bd_data, bd_chain, bd_guard, bd_phase, bd_text, bd_gc] at hd)
      (first | simp [puts, dsts, Act.put, hd] | simp [puts, dsts, Act.put])
      clear hd
      go_wp2_with fail
      refine (implFMul_y P x S2 _ EX.out FE.out).mono ?_
      rintro e w10 ⟨rfl, g10⟩
      rw [HY.out]
      have G10 := Lib.hid g10
      clear g10
      go_wp2_with fail
      exact ⟨_, rfl, rfl, G10.out⟩
    rotate_left 4
    · intro f w9 hG hd
      have hz := hG.size
      simp at hz
      (try simp [depsC, dstAt, kAt, bindE, List.filter_cons, bd_data, bd_chain, bd_guard, bd_phase, bd_text, bd_gc] at hd)
      simp only [isV] at hd
      (first | simp [puts, dsts, Act.put, hd] | simp [puts, dsts, Act.put])
      clear hd
      go_wp2_with fail
      refine (implshared_yes P s T1 n y w9 EY.out hs (by omega) n1 n5).mono ?_
      rintro e w10 ⟨v2, rfl, o2, g2⟩
      rw [HL2.out] at o2
      obtain ⟨A2, c2, rfl, _, _⟩ := own_form o2
      have O2 := Lib.hid (own_base o2 hz)
      have G2 := Lib.hid g2
      clear o2 g2
      go_wp2_with fail
      exact ⟨_, rfl, ⟨A2, c2, rfl, O2.out⟩, G2.out⟩
    · intro f w9 hG hd
      (try simp [depsC, dstAt, kAt, bindE, List.filter_cons, bd_data, bd_chain, bd_guard, bd_phase, bd_text, bd_gc] at hd)
      obtain ⟨A2, c2, e2, o2⟩ := hd
      simp [puts, dsts, Act.put, e2]
      go_wp2_with fail
      exact ⟨_, rfl, ⟨A2, c2, rfl, o2⟩, gbR _ _⟩
    · intro f w9 hG hd
      (try simp [depsC, dstAt, kAt, bindE, List.filter_cons, bd_data, bd_chain, bd_guard, bd_phase, bd_text, bd_gc] at hd)
      obtain ⟨A2, c2, e2, o2⟩ := hd
      simp [puts, dsts, Act.put, e2]
      go_wp2_with fail
      exact ⟨_, rfl, ⟨A2, c2, rfl, o2⟩, gbR _ _⟩
    · intro f w9 hG hd
      (try simp [depsC, dstAt, kAt, bindE, List.filter_cons, bd_data, bd_chain, bd_guard, bd_phase, bd_text, bd_gc] at hd)
      obtain ⟨A2, c2, e2, o2⟩ := hd
      simp [puts, dsts, Act.put, e2]
      go_wp2_with fail
      exact ⟨rfl, rfl⟩
    rotate_left 1
    · intro f w9 hG hI hd
      have hI : w6.drew.grownBy w9 none := hI
      (try simp [depsC, dstAt, kAt, bindE, List.filter_cons, bd_data, bd_chain, bd_guard, bd_phase, bd_text, bd_gc] at hd)
      obtain ⟨e63, ⟨A2, c2, e61, o2⟩, _⟩ := hd
      rw [e61] at o2
      have hz := hI.size
      simp at hz
      have DBw := DB6.out.grow (gbT (gbD (gbR w6 none)) hI)
      have f1 := DBw.frozen 1
      have b1 := DBw.cell 1
      simp at b1
      have CH := chgS w9 gB 1 (.slice A2 n c2)
      have RS := Lib.hid (DBw.set_ 1 (.slice A2 n c2))
      have OS := Lib.hid (Chg.own o2 CH (fun g hg (e : g = gB) => by have := (o2.lt g hg).1; omega))
      have C1 := Lib.hid ((Chg.of (S := fun z => z = gB) hI (by simp)).trans CH)
      have K1 := Lib.hid (fun v (h : shT2 w6.heap.size n L2 (.agg #[.int .i64 s, .int .i64 ((T1 + (n - 1) : Nat) : Int)]) v w9) => shT2_chg h CH (show gB < w6.heap.size by omega))
      have K2 := Lib.hid (fun v (h : row1 w6.heap.size n L2 v w9) => row1_chg h CH (show gB < w6.heap.size by omega))
      have CH := Lib.hid CH
      clear o2 DBw
      simp [puts, dsts, Act.put, e61, e63]
      go_wp2_with fail
      exact ⟨rfl, ⟨.bool false, ⟨A2, c2, OS.out, RS.out⟩, C1.out⟩, CH.out, by simp [keepsC, dstAt]; exact ⟨fun h => h, K1.out _, K1.out _, K2.out _⟩⟩
    · intro f w9 hG hI hd
      obtain ⟨⟨A2, c2, o2, B2⟩, C2⟩ := hI
      have C2 : Chg (fun z => z = gB) w6.drew w9 := C2
      (try simp [depsC, dstAt, kAt, bindE, List.filter_cons, bd_data, bd_chain, bd_guard, bd_phase, bd_text, bd_gc] at hd)
      have e62 := hd.1
      clear hd
      have DTw := (D16.out.grow (gbD (gbR w6 none))).chg C2 (by omega)
      have f0 := DTw.frozen 0
      have f1 := DTw.frozen 1
      have b0 := DTw.cell 0
      have b1 := DTw.cell 1
      simp at b0 b1
      have RS := Lib.hid (blk_setCells DTw [.int .i64 s, .int .i64 ((T1 + (n - 1) : Nat) : Int)] rfl)
      have CH := chg_setCells gT [.int .i64 s, .int .i64 ((T1 + (n - 1) : Nat) : Int)] 0 w9
      have OS := Lib.hid (Chg.own o2 CH (fun g hg (e : g = gT) => by have := (o2.lt g hg).1; omega))
      have BS := Lib.hid (B2.chg CH (by omega))
      have CS := Lib.hid ((C2.mono (T := fun z => z = gB ∨ z = gT) (fun z h => .inl h)).trans (CH.mono (fun z h => .inr h)))
      clear o2 B2 C2 CH DTw
      simp [puts, dsts, Act.put, e62]
      go_wp2_with fail
      exact ⟨rfl, .bool false, ⟨A2, c2, OS.out, BS.out⟩, RS.out, CS.out⟩
    all_goals
      intro f w9 hG hd
      have k0 := hG.cell (D06.out.cell 0) (by have := D06.out.lt; simpa using this) (by omega)
      have k1 := hG.cell (D06.out.cell 1) (by have := D06.out.lt; simpa using this) (by omega)
      have k2 := hG.cell (D16.out.cell 0) (by have := D16.out.lt; simpa using this) (by omega)
      have k3 := hG.cell (D16.out.cell 1) (by have := D16.out.lt; simpa using this) (by omega)
      simp at k0 k1 k2 k3
      (try simp [depsC, dstAt, kAt, bindE, List.filter_cons, bd_data, bd_chain, bd_guard, bd_phase, bd_text, bd_gc] at hd)
      (first | simp [puts, dsts, Act.put, hd] | simp [puts, dsts, Act.put])
      clear hd
      go_wp2_with fail
      exact ⟨rfl, rfl⟩
  intro f w9 hI hd
  obtain ⟨⟨A2, c2, o2, B2⟩, T2, C2⟩ := hI
  have C2 := chgDr C2
  have O1 := Lib.hid (Chg.own O16.out C2 (fun g hg e => by have := (O16.out.lt g hg).1; rcases e with e | e <;> (have e := e; omega)))
  have hap : ∀ g, (Value.slice A1 n c1).ownBlock = some g → (Value.slice A2 n c2).ownBlock ≠ some g := fun g hg hg' => by
    have h1 := (O16.out.lt g hg).2
    have h2 := (o2.lt g hg').1
    omega
  have AU : Hid (autF (gB + 1) ⟨shareL (P : Int) x (tapeL s a P (n - 1)), L2⟩ (.agg #[.slice A1 n c1, .slice A2 n c2]) w9) := by
    exact Lib.hid (row2.agg ⟨row1.of O1.out, row1.of (own_base o2 z6), hap⟩)
  have DA := Lib.hid (D26.out.chg C2 (by omega))
  have DT := Lib.hid (D36.out.chg C2 (by omega))
  have G9 := Lib.hid (gbChg G6.out C2 (fun z hz => by rcases hz with hz | hz <;> omega))
  have b0 := B2.cell 0
  have b1 := B2.cell 1
  have t0 := T2.cell 0
  have t1 := T2.cell 1
  simp at b0 b1 t0 t1
  clear o2 hd
  simp only [puts, dsts, Act.put, List.filterMap_cons, List.filterMap_nil, List.setIfInBounds_toArray, List.set_cons_zero, List.set_cons_succ]
  have BB := Lib.hid B2
  have TT := Lib.hid T2
  clear B2 T2 C2
  go_wp2_with fail
  obtain ⟨gA, hgA⟩ : ∃ g, gT + 1 = g := ⟨_, rfl⟩
  obtain ⟨gU, hgU⟩ : ∃ g, gT + 1 + 1 = g := ⟨_, rfl⟩
  rw [hgU] at DT ⊢
  rw [hgA] at DA ⊢
  have hAU1 : gA < gU := by omega
  have hUB : gU < gB := by omega
  have hTA : gT < gA := by omega
  clear b0 b1 t0 t1
  refine region_chain [.rd (.agg #[.slice A1 n c1, .slice A2 n c2]), .rd (.agg #[.int .i64 s, .int .i64 ((T1 + (n - 1) : Nat) : Int)]), .ch, .ch] (fun z => z = gA)
    [⟨[], fun _ w' => w' = w9.drew⟩,
     ⟨[], fun _ w' => Blk w' gA 44 #[.slice A1 n c1, .slice A2 n c2] ∧ Chg (fun z => z = gA) w9.drew w'⟩,
     ⟨[], fun _ w' => Blk w' gA 44 #[.slice A1 n c1, .slice A2 n c2] ∧ Blk w' gU 31 #[.int .i64 s, .int .i64 ((T1 + (n - 1) : Nat) : Int)] ∧ Chg (fun z => z = gA ∨ z = gU) w9.drew w'⟩]
    (by kernel_rfl) (by kernel_rfl) (by kernel_rfl) 2 (by kernel_rfl) (by simp only [flOk, and_true]) rfl rfl ?_ ?_
  · simp only [hopsK, hopK, Kd.next, and_true]
    refine ⟨?_, ?_, ?_, ?_⟩
    · intro f w10 hG hd
      have B4 := (BB.out.grow (gbD (gbR w9 none))).chg hG (by omega)
      have b0 := B4.cell 0
      have b1 := B4.cell 1
      simp at b0 b1
      clear hd
      simp [puts, dsts, Act.put]
      go_wp2_with fail
      exact ⟨rfl, rfl⟩
    · intro f w10 hG hd
      have B4 := (TT.out.grow (gbD (gbR w9 none))).chg hG (by omega)
      have b0 := B4.cell 0
      have b1 := B4.cell 1
      simp at b0 b1
      clear hd
      simp [puts, dsts, Act.put]
      go_wp2_with fail
      exact ⟨rfl, rfl⟩
    · intro f w10 hG hI hd
      have hI : w10 = w9.drew := hI
      subst hI
      (try simp [depsC, dstAt, kAt, bindE, List.filter_cons, bd_data, bd_chain, bd_guard, bd_phase, bd_text, bd_gc] at hd)
      have e64 := hd
      have R4 := DA.out.grow (gbD (gbR w9 none))
      have f0 := R4.frozen 0
      have f1 := R4.frozen 1
      have g0 := DA.out.frozen 0
      have g1 := DA.out.frozen 1
      have b0 := R4.cell 0
      have b1 := R4.cell 1
      simp at b0 b1
      have RS := Lib.hid (blk_setCells R4 [.slice A1 n c1, .slice A2 n c2] rfl)
      have CH := Lib.hid (chg_setCells gA [.slice A1 n c1, .slice A2 n c2] 0 w9.drew)
      clear hd R4
      simp [puts, dsts, Act.put, e64]
      go_wp2_with fail
      exact ⟨rfl, ⟨.bool false, RS.out, CH.out⟩, CH.out, by simp [keepsC]⟩
    · intro f w10 hG hI hd
      obtain ⟨B2, C2⟩ := hI
      have C2 : Chg (fun z => z = gA) w9.drew w10 := C2
      (try simp [depsC, dstAt, kAt, bindE, List.filter_cons, bd_data, bd_chain, bd_guard, bd_phase, bd_text, bd_gc] at hd)
      have e65 := hd.1
      have R4 := (DT.out.grow (gbD (gbR w9 none))).chg C2 (by omega)
      have f0 := R4.frozen 0
      have f1 := R4.frozen 1
      have b0 := R4.cell 0
      have b1 := R4.cell 1
      simp at b0 b1
      have RS := Lib.hid (blk_setCells R4 [.int .i64 s, .int .i64 ((T1 + (n - 1) : Nat) : Int)] rfl)
      have CH := chg_setCells gU [.int .i64 s, .int .i64 ((T1 + (n - 1) : Nat) : Int)] 0 w10
      have BS := Lib.hid (B2.chg CH (by omega))
      have CS := Lib.hid ((C2.mono (T := fun z => z = gA ∨ z = gU) (fun z h => .inl h)).trans (CH.mono (fun z h => .inr h)))
      clear hd R4 B2 C2 CH
      simp [puts, dsts, Act.put, e65]
      go_wp2_with fail
      exact ⟨rfl, .bool false, BS.out, RS.out, CS.out⟩
  intro f w10 hI hd
  obtain ⟨BA, BU, C3⟩ := hI
  have C3 := chgDr C3
  have AZ := Lib.hid (autF.chg2 AU.out C3 (show gA < gB + 1 by omega) (show gU < gB + 1 by omega))
  have GZ := Lib.hid (gbChg G9.out C3 (fun z hz => by rcases hz with hz | hz <;> omega))
  clear hd
  simp only [puts, dsts, Act.put, List.filterMap_cons, List.filterMap_nil, List.setIfInBounds_toArray, List.set_cons_zero, List.set_cons_succ]
  go_wp2_with fail
  refine ret_cc Try.results53 (by rfl) stAuth (cs := #[.slice A1 n c1, .slice A2 n c2]) BA (by rfl) (by rfl) stTape (ds := #[.int .i64 s, .int .i64 ((T1 + (n - 1) : Nat) : Int)]) BU (by rfl) (by rfl) ?_
  have hT := HT1.out
  have hN := HN.out
  rw [hN] at hT
  refine ⟨.agg #[.slice A1 n c1, .slice A2 n c2], ?_, ?_, GZ.out⟩
  · rw [hN, hT]
  · have e : authNew ⟨(P : Int), al⟩ P s a x = ⟨shareL (P : Int) x (tapeL s a P (n - 1)), L2⟩ := by
      unfold authNew
      simp only
      rw [hN, hT, HS2.out, HY.out, ← HL2.out]
    rw [e]
    exact autF.lo AZ.out (by omega)
end Go.Proofs.Ythaadgdeadbhkaa
