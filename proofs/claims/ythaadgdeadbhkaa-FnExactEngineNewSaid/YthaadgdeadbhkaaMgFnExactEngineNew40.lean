/-
  EngineNew of the reference: where it gives nothing.
-/
import Derived.Test.YthaadgdeadbhkaaMgFnExactEngineNew33
import Derived.Test.YthaadgdeadbhkaaMgFnExactEngineNew38
import Derived.Test.YthaadgdeadbhkaaMgFnExactEngineNew39
namespace Go.Proofs.Ythaadgdeadbhkaa
open Go.RowKit
set_option linter.unusedVariables false
set_option linter.unusedSimpArgs false
set_option maxHeartbeats 4000000 in
set_option maxRecDepth 100000 in
theorem specEngineNew_no (k : KM) (c : AM) (I : Option Addr) (ni ci : Nat) (ins : List Int) (s a : Int) (kv cv : Value) (w0 : World) (h : AggR w0 (ckeys k) kv) (hc : AggR w0 (carith c) cv) (hi : Ints w0 I ni ins) (wk : kwf k) (wc : amwf c) (hn : ni ≤ 1048576) (hs : i64w a) (hb : newB k c ins s a = false) :
    Calls Try.prog 20 #[kv, cv, .slice I ni ci, .agg #[.int .i64 s, .int .i64 a]] w0 fun e w' => e = .returned (.tuple #[.agg #[.int .i64 0, .slice none 0 0, .int .i64 0, .slice none 0 0, .slice none 0 0, .slice none 0 0, .slice none 0 0, .int .i64 0, .bool false], .bool false]) ∧ w0.grownBy w' none := by
  obtain ⟨KA, kc, rfl, _, _, _⟩ := ckeys_sl h
  obtain ⟨u1, u2, rfl, c1, c2⟩ := carith_open hc
  obtain ⟨A1, n1, rfl, _, _, _⟩ := plst_rd (s := 3) (fun _ => rfl) (by omega) c1
  obtain ⟨A2, n2, rfl, _, _, _⟩ := cints_rd c2
  obtain ⟨w1, hw1⟩ : ∃ y : World, (((w0.alloc (.cells #[.int .i64 k.p, .slice KA k.al.length kc] 26)).alloc (.cells #[.int .i64 c.p, .slice A1 c.st.length n1, .slice A2 c.outs.length n2] 29)).alloc (.cells #[.int .i64 s, .int .i64 a] 31)).alloc (.cells #[.int .i64 0, .slice none 0 0, .int .i64 0, .slice none 0 0, .slice none 0 0, .slice none 0 0, .slice none 0 0, .int .i64 0, .bool false] 36) = y := ⟨_, rfl⟩
  have GB : Hid (w0.grownBy w1 none) := by rw [← hw1]; exact gbA (gbA (gbA (gbA (gbR _ _) _) _) _) _
  have D0 : Hid (Blk w1 w0.heap.size 26 #[.int .i64 k.p, .slice KA k.al.length kc]) := by rw [← hw1]; exact (((Blk.new w0 _ _).grow (gbA (gbR _ _) _)).grow (gbA (gbR _ _) _)).grow (gbA (gbR _ _) _)
  have D1 : Hid (Blk w1 (w0.heap.size + 1) 29 #[.int .i64 c.p, .slice A1 c.st.length n1, .slice A2 c.outs.length n2]) := by rw [← hw1]; exact ((Blk.new' _ _ _ _ (by simp)).grow (gbA (gbR _ _) _)).grow (gbA (gbR _ _) _)
  have D2 : Hid (Blk w1 (w0.heap.size + 1 + 1) 31 #[.int .i64 s, .int .i64 a]) := by rw [← hw1]; exact (Blk.new' _ _ _ _ (by simp)).grow (gbA (gbR _ _) _)
  have D8 : Hid (Blk w1 (w0.heap.size + 1 + 1 + 1) 36 #[.int .i64 0, .slice none 0 0, .int .i64 0, .slice none 0 0, .slice none 0 0, .slice none 0 0, .slice none 0 0, .int .i64 0, .bool false]) := by rw [← hw1]; exact Blk.new' _ _ _ _ (by simp)
  have HK := Lib.hid (AggR.grow h GB.out)
  have HC := Lib.hid (AggR.grow hc GB.out)
  have HI := Lib.hid (hi.grow GB.out)
  have HL := Lib.hid hi.len
  have WK := Lib.hid wk
  have WC := Lib.hid wc
  have HB : Hid (newB k c ins s a = (keysB k && arithB c && (k.p == c.p) && ((ins.length : Int) == 60) && elemsB c.p ins && tapeB s a && !decide (900000 < a))) := rfl
  rw [hb] at HB
  clear h hc hi wk wc c1 c2 hb
  have hcp := WK.out.1
  obtain ⟨hcp1, hcp2⟩ := hcp
  obtain ⟨hs1, hs2⟩ := hs
  go_enter Try.func20, Try.ntmps20
  have k0 := D0.out.cell 0
  have k1 := D0.out.cell 1
  have x0 := D1.out.cell 0
  have x1 := D1.out.cell 1
  have x2 := D1.out.cell 2
  have y0 := D2.out.cell 0
  have y1 := D2.out.cell 1
  simp at k0 k1 x0 x1 x2 y0 y1
  go_wp2_with fail
  obtain ⟨gR, hgR'⟩ : ∃ g, w0.heap.size + 1 + 1 + 1 = g := ⟨_, rfl⟩
  have hgR : w0.heap.size ≤ gR := by omega
  rw [hgR'] at D8 ⊢
  clear hgR' hw1 k0 k1 x0 x1 x2 y0 y1
  refine (specKeysOk_c k _ _ HK.out WK.out).mono ?_
  rintro e w2 ⟨rfl, g2⟩
  cases b1 : keysB k
  · skip
    have GZ := gbT GB.out (g2)
    have RZ := D8.out.grow (g2)
    have f0 := RZ.frozen 0
    have f1 := RZ.frozen 1
    have f2 := RZ.frozen 2
    have f3 := RZ.frozen 3
    have f4 := RZ.frozen 4
    have f5 := RZ.frozen 5
    have f6 := RZ.frozen 6
    have f7 := RZ.frozen 7
    have f8 := RZ.frozen 8
    have b0 := RZ.cell 0
    have b1 := RZ.cell 1
    have b2 := RZ.cell 2
    have b3 := RZ.cell 3
    have b4 := RZ.cell 4
    have b5 := RZ.cell 5
    have b6 := RZ.cell 6
    have b7 := RZ.cell 7
    have b8 := RZ.cell 8
    simp at b0 b1 b2 b3 b4 b5 b6 b7 b8
    have RS := blk_setCells RZ eng0L rfl
    have GS := gb_chg GZ (chg_setCells gR eng0L 0 _) hgR
    simp only [setCells, eng0L, Nat.zero_add, Nat.reduceAdd] at RS GS
    have RS := Lib.hid RS
    have GS := Lib.hid GS
    clear RZ GZ
    go_wp2_with fail
    refine ret_ct Try.results20 (by rfl) stEngine (cs := #[.int .i64 0, .slice none 0 0, .int .i64 0, .slice none 0 0, .slice none 0 0, .slice none 0 0, .slice none 0 0, .int .i64 0, .bool false]) RS.out (by rfl) (by rfl) ?_
    exact ⟨rfl, GS.out⟩
  have x0 := (D1.out.grow g2).cell 0
  have x1 := (D1.out.grow g2).cell 1
  have x2 := (D1.out.grow g2).cell 2
  simp at x0 x1 x2
  have G2 := Lib.hid g2
  clear g2
  go_wp2_with fail
  clear x0 x1 x2
  refine (specArithOk_c c _ _ (AggR.grow HC.out G2.out) WC.out.wf).mono ?_
  rintro e w3 ⟨rfl, g3⟩
  have g3 := gbT G2.out g3
  clear G2
  cases b2 : arithB c
  · skip
    have GZ := gbT GB.out (g3)
    have RZ := D8.out.grow (g3)
    have f0 := RZ.frozen 0
    have f1 := RZ.frozen 1
    have f2 := RZ.frozen 2
    have f3 := RZ.frozen 3
    have f4 := RZ.frozen 4
    have f5 := RZ.frozen 5
    have f6 := RZ.frozen 6
    have f7 := RZ.frozen 7
    have f8 := RZ.frozen 8
    have b0 := RZ.cell 0
    have b1 := RZ.cell 1
    have b2 := RZ.cell 2
    have b3 := RZ.cell 3
    have b4 := RZ.cell 4
    have b5 := RZ.cell 5
    have b6 := RZ.cell 6
    have b7 := RZ.cell 7
    have b8 := RZ.cell 8
    simp at b0 b1 b2 b3 b4 b5 b6 b7 b8
    have RS := blk_setCells RZ eng0L rfl
    have GS := gb_chg GZ (chg_setCells gR eng0L 0 _) hgR
    simp only [setCells, eng0L, Nat.zero_add, Nat.reduceAdd] at RS GS
    have RS := Lib.hid RS
    have GS := Lib.hid GS
    clear RZ GZ
    go_wp2_with fail
    refine ret_ct Try.results20 (by rfl) stEngine (cs := #[.int .i64 0, .slice none 0 0, .int .i64 0, .slice none 0 0, .slice none 0 0, .slice none 0 0, .slice none 0 0, .int .i64 0, .bool false]) RS.out (by rfl) (by rfl) ?_
    exact ⟨rfl, GS.out⟩
  have G3 := Lib.hid g3
  have k0 := (D0.out.grow g3).cell 0
  have x0 := (D1.out.grow g3).cell 0
  simp at k0 x0
  cases b3 : (k.p == c.p)
  · have n3 : (k.p != c.p) = true := by rw [bne, b3]; rfl
    clear b3
    have GZ := gbT GB.out (g3)
    have RZ := D8.out.grow (g3)
    have f0 := RZ.frozen 0
    have f1 := RZ.frozen 1
    have f2 := RZ.frozen 2
    have f3 := RZ.frozen 3
    have f4 := RZ.frozen 4
    have f5 := RZ.frozen 5
    have f6 := RZ.frozen 6
    have f7 := RZ.frozen 7
    have f8 := RZ.frozen 8
    have b0 := RZ.cell 0
    have b1 := RZ.cell 1
    have b2 := RZ.cell 2
    have b3 := RZ.cell 3
    have b4 := RZ.cell 4
    have b5 := RZ.cell 5
    have b6 := RZ.cell 6
    have b7 := RZ.cell 7
    have b8 := RZ.cell 8
    simp at b0 b1 b2 b3 b4 b5 b6 b7 b8
    have RS := blk_setCells RZ eng0L rfl
    have GS := gb_chg GZ (chg_setCells gR eng0L 0 _) hgR
    simp only [setCells, eng0L, Nat.zero_add, Nat.reduceAdd] at RS GS
    have RS := Lib.hid RS
    have GS := Lib.hid GS
    clear RZ GZ
    go_wp2_with fail
    refine ret_ct Try.results20 (by rfl) stEngine (cs := #[.int .i64 0, .slice none 0 0, .int .i64 0, .slice none 0 0, .slice none 0 0, .slice none 0 0, .slice none 0 0, .int .i64 0, .bool false]) RS.out (by rfl) (by rfl) ?_
    exact ⟨rfl, GS.out⟩
  have n3 : (k.p != c.p) = false := by rw [bne, b3]; rfl
  have HPP : Hid (k.p = c.p) := Lib.hid (by simpa using b3)
  have hl : (ins.length : Int) = (ni : Int) := by rw [HL.out]
  rw [hl] at HB
  clear hl
  cases b4 : ((ni : Int) == 60)
  · have n4 : ((ni : Int) != 60) = true := by rw [bne, b4]; rfl
    clear b3 b4
    have GZ := gbT GB.out (g3)
    have RZ := D8.out.grow (g3)
    have f0 := RZ.frozen 0
    have f1 := RZ.frozen 1
    have f2 := RZ.frozen 2
    have f3 := RZ.frozen 3
    have f4 := RZ.frozen 4
    have f5 := RZ.frozen 5
    have f6 := RZ.frozen 6
    have f7 := RZ.frozen 7
    have f8 := RZ.frozen 8
    have b0 := RZ.cell 0
    have b1 := RZ.cell 1
    have b2 := RZ.cell 2
    have b3 := RZ.cell 3
    have b4 := RZ.cell 4
    have b5 := RZ.cell 5
    have b6 := RZ.cell 6
    have b7 := RZ.cell 7
    have b8 := RZ.cell 8
    simp at b0 b1 b2 b3 b4 b5 b6 b7 b8
    have RS := blk_setCells RZ eng0L rfl
    have GS := gb_chg GZ (chg_setCells gR eng0L 0 _) hgR
    simp only [setCells, eng0L, Nat.zero_add, Nat.reduceAdd] at RS GS
    have RS := Lib.hid RS
    have GS := Lib.hid GS
    clear RZ GZ
    go_wp2_with fail
    refine ret_ct Try.results20 (by rfl) stEngine (cs := #[.int .i64 0, .slice none 0 0, .int .i64 0, .slice none 0 0, .slice none 0 0, .slice none 0 0, .slice none 0 0, .int .i64 0, .bool false]) RS.out (by rfl) (by rfl) ?_
    exact ⟨rfl, GS.out⟩
  have n4 : ((ni : Int) != 60) = false := by rw [bne, b4]; rfl
  rw [b1, b2, b3, b4] at HB
  clear b1 b2 b3 b4 g3
  go_wp2_with fail
  clear n3 n4 k0 x0
  rw [show elemsB c.p ins = elemsB k.p ins by rw [HPP.out]] at HB
  refine (specl03All_c k.p I ni ci ins w3 (by omega) (HI.out.grow G3.out) (by omega)).mono ?_
  rintro e w4 ⟨rfl, rfl⟩
  cases b5 : elemsB k.p ins
  · skip
    have GZ := gbT GB.out (G3.out)
    have RZ := D8.out.grow (G3.out)
    have f0 := RZ.frozen 0
    have f1 := RZ.frozen 1
    have f2 := RZ.frozen 2
    have f3 := RZ.frozen 3
    have f4 := RZ.frozen 4
    have f5 := RZ.frozen 5
    have f6 := RZ.frozen 6
    have f7 := RZ.frozen 7
    have f8 := RZ.frozen 8
    have b0 := RZ.cell 0
    have b1 := RZ.cell 1
    have b2 := RZ.cell 2
    have b3 := RZ.cell 3
    have b4 := RZ.cell 4
    have b5 := RZ.cell 5
    have b6 := RZ.cell 6
    have b7 := RZ.cell 7
    have b8 := RZ.cell 8
    simp at b0 b1 b2 b3 b4 b5 b6 b7 b8
    have RS := blk_setCells RZ eng0L rfl
    have GS := gb_chg GZ (chg_setCells gR eng0L 0 _) hgR
    simp only [setCells, eng0L, Nat.zero_add, Nat.reduceAdd] at RS GS
    have RS := Lib.hid RS
    have GS := Lib.hid GS
    clear RZ GZ
    go_wp2_with fail
    refine ret_ct Try.results20 (by rfl) stEngine (cs := #[.int .i64 0, .slice none 0 0, .int .i64 0, .slice none 0 0, .slice none 0 0, .slice none 0 0, .slice none 0 0, .int .i64 0, .bool false]) RS.out (by rfl) (by rfl) ?_
    exact ⟨rfl, GS.out⟩
  rw [b5] at HB
  clear b5
  have y0 := (D2.out.grow G3.out).cell 0
  have y1 := (D2.out.grow G3.out).cell 1
  simp at y0 y1
  go_wp2_with fail
  clear y0 y1
  refine (specl06Tape_c s a _).mono ?_
  rintro e w4 ⟨rfl, g4⟩
  have g4 := gbT G3.out g4
  have hb : (tapeB s a && !decide (900000 < a)) = false := by
    have := HB.out
    rw [Bool.and_assoc] at this
    simpa using this.symm
  rw [hb]
  clear hb
  have GZ := gbT GB.out (g4)
  have RZ := D8.out.grow (g4)
  have f0 := RZ.frozen 0
  have f1 := RZ.frozen 1
  have f2 := RZ.frozen 2
  have f3 := RZ.frozen 3
  have f4 := RZ.frozen 4
  have f5 := RZ.frozen 5
  have f6 := RZ.frozen 6
  have f7 := RZ.frozen 7
  have f8 := RZ.frozen 8
  have b0 := RZ.cell 0
  have b1 := RZ.cell 1
  have b2 := RZ.cell 2
  have b3 := RZ.cell 3
  have b4 := RZ.cell 4
  have b5 := RZ.cell 5
  have b6 := RZ.cell 6
  have b7 := RZ.cell 7
  have b8 := RZ.cell 8
  simp at b0 b1 b2 b3 b4 b5 b6 b7 b8
  have RS := blk_setCells RZ eng0L rfl
  have GS := gb_chg GZ (chg_setCells gR eng0L 0 _) hgR
  simp only [setCells, eng0L, Nat.zero_add, Nat.reduceAdd] at RS GS
  have RS := Lib.hid RS
  have GS := Lib.hid GS
  clear RZ GZ
  go_wp2_with fail
  refine ret_ct Try.results20 (by rfl) stEngine (cs := #[.int .i64 0, .slice none 0 0, .int .i64 0, .slice none 0 0, .slice none 0 0, .slice none 0 0, .slice none 0 0, .int .i64 0, .bool false]) RS.out (by rfl) (by rfl) ?_
  exact ⟨rfl, GS.out⟩
end Go.Proofs.Ythaadgdeadbhkaa
