/-
  The reference's circuits for words: constants, sums, products.
-/
import Derived.Test.YthdfkiaoahpjpaaMgFnConstantCircuits44
namespace Go.Proofs.Ythdfkiaoahpjpaa
open Go.RowKit
set_option linter.unusedVariables false
set_option linter.unusedSimpArgs false
theorem GBT.base' {T : TypeId} {lo : Nat} {w0 a b : World} (h : w0.grownBy a none) (k : Chg (GBT T lo a) a b) (hl : w0.heap.size ≤ lo) : w0.grownBy b none := gbChg h k fun y hy => by have := hy.1; omega
theorem BS.finS {lo hi g r : Nat} {M : CM} {w0 wE : World} {a0 a1 : Value} (b : BS 28 lo hi M g wE) (k : w0.grownBy wE none) (R : Blk wE r 28 #[a0, a1]) (hlo : w0.heap.size ≤ lo) (hr : w0.heap.size ≤ r) :
    ∃ A n c B n' c', Blk wE g 28 #[.slice A n c, .slice B n' c'] ∧ Blk (setCells wE r 0 [.slice A n c, .slice B n' c']) r 28 #[.slice A n c, .slice B n' c'] ∧ aggF w0.heap.size (ccircuit M) (.agg #[.slice A n c, .slice B n' c']) (setCells wE r 0 [.slice A n c, .slice B n' c']) ∧ w0.grownBy (setCells wE r 0 [.slice A n c, .slice B n' c']) none ∧
      ∀ l2 xs v, ownF l2 (cints xs) v wE → ownF l2 (cints xs) v (setCells wE r 0 [.slice A n c, .slice B n' c']) := by
  obtain ⟨_, _, u0, u1, F0, F1, hb, o0, o1, l0, l1⟩ := b
  obtain ⟨A, n, c, rfl⟩ := row_form o0
  obtain ⟨B, n', c', rfl⟩ := row_form o1
  have hC := chg_setCells r [.slice A n c, .slice B n' c'] 0 wE
  refine ⟨A, n, c, B, n', c', hb, blk_setCells R [.slice A n c, .slice B n' c'] rfl, ⟨_, ccircuit_omk (own_chgK _ o0 hC fun y hy e => ?_) (own_chgK _ o1 hC fun y hy e => ?_) (gi_disj o0 o1), fun y hy => ?_⟩, gb_chg k hC hr, fun l2 xs v ⟨F, h1, h2⟩ => ⟨F, own_chgK _ h1 hC fun y hy e => ?_, h2⟩⟩
  · rw [e] at hy
    exact own_ty (Ts := [41]) (tyd_plst (by simp)) o0 R (by decide) hy
  · rw [e] at hy
    exact own_ty (Ts := [3]) (tyd_plst (by simp)) o1 R (by decide) hy
  · simp only [List.flatten_cons, List.flatten_nil, List.append_nil, List.mem_append] at hy
    rcases hy with hy | hy
    · exact Nat.le_trans hlo (l0 y hy)
    · exact Nat.le_trans hlo (l1 y hy).1
  · rw [e] at hy
    exact own_ty (Ts := [3]) (tyd_plst (by simp)) h1 R (by decide) hy
theorem SRV.low' {T : TypeId} {lo : Nat} {w0 w : World} {A : Option Addr} {n : Nat} {xs : List Int} (h : Ints w0 A n xs) (hg : w0.grownBy w none) (hl : w0.heap.size ≤ lo) : SRV T lo w A n xs := fun w' k => h.grow (GBT.base' hg k hl)
set_option maxHeartbeats 4000000 in
set_option maxRecDepth 100000 in
theorem specWordConst_c (m : CM) (n : Nat) (v : Value) (w0 : World) (h : AggR w0 (ccircuit m) v) (ask : WAsk m) (hn : n ≤ 15) :
    Calls Try.prog 21 #[v, .int .i64 n] w0 fun e w' => ∃ V U, e = .returned (.tuple #[V, U]) ∧ aggF w0.heap.size (ccircuit (constTo m n 4).2) V w' ∧ ownF w0.heap.size (cints (constTo m n 4).1) U w' ∧ w0.grownBy w' none := by
  obtain ⟨u0, u1, rfl, h1, h2⟩ := ccircuit_open h
  obtain ⟨Ag, cg, rfl, _, _, _⟩ := plst_rd (s := 3) (fun _ => rfl) (by omega) h1
  obtain ⟨w1, hw1⟩ : ∃ q : World, (w0.alloc (.cells #[.slice Ag m.gt.length cg, u1] 28)).alloc (.cells #[.slice none 0 0, .slice none 0 0] 28) = q := ⟨_, rfl⟩
  have G1 : Hid (w0.grownBy w1 none) := by rw [← hw1]; exact gbA (gbA (gbR _ _) _) _
  have z1 : w0.heap.size + 2 ≤ w1.heap.size := by rw [← hw1]; simp
  have D1 : Hid (Blk w1 w0.heap.size 28 #[.slice Ag m.gt.length cg, u1]) := by rw [← hw1]; exact (Blk.new w0 _ _).grow (gbA (gbR _ _) _)
  have DR : Hid (Blk w1 (w0.heap.size + 1) 28 #[.slice none 0 0, .slice none 0 0]) := by rw [← hw1]; exact Blk.new' _ _ _ _ (by simp)
  have HV := Lib.hid h
  have ASK := Lib.hid ask
  clear h h1 h2 ask
  go_enter Try.func21, Try.ntmps21
  have k0 := D1.out.cell 0
  have k1 := D1.out.cell 1
  simp at k0 k1
  go_wp2_with fail
  clear hw1 k0 k1
  refine (specl14Copy_c m _ w1 (HV.out.grow G1.out) (by have := ASK.out.few; omega) (by have := ASK.out.outs; omega)).mono ?_
  rintro e w2 ⟨v2, rfl, o2, g2⟩
  obtain ⟨A2, n2, c2, B2, m2, d2, rfl⟩ := ccircuit_oform o2.choose_spec.1
  have z2 := g2.size
  obtain ⟨w3, hw3⟩ : ∃ q : World, w2.alloc (.cells #[.slice A2 n2 c2, .slice B2 m2 d2] 28) = q := ⟨_, rfl⟩
  have g3 : w2.grownBy w3 none := by rw [← hw3]; exact gbA (gbR _ _) _
  have B3 : Hid (BS 28 w1.heap.size (w2.heap.size + 1) m w2.heap.size w3) := by rw [← hw3]; exact Lib.hid (BS.made o2 (by omega))
  have G3 := Lib.hid (gbT G1.out (gbT g2 g3))
  have D3 := Lib.hid (D1.out.grow (gbT g2 g3))
  have R3 := Lib.hid (DR.out.grow (gbT g2 g3))
  have z3 : w3.heap.size = w2.heap.size + 1 := by rw [← hw3]; simp
  have Z3 := Lib.hid z3
  have k0 := D3.out.cell 0
  have k1 := D3.out.cell 1
  simp at k0 k1
  clear G1 D1 DR o2 g2 g3
  clear z3
  go_wp2_with fail
  clear hw3 k0 k1
  refine (specCircuitOk_c m _ w3 (HV.out.grow G3.out)).mono ?_
  rintro e w5 ⟨rfl, g5⟩
  rw [circB_yes ASK.out.ok]
  have G5 := Lib.hid (gbT G3.out g5)
  have B5 := Lib.hid (B3.out.grow g5)
  have R5 := Lib.hid (R3.out.grow g5)
  have D5 := Lib.hid (D3.out.grow g5)
  have z5 : w2.heap.size + 1 ≤ w5.heap.size := by have := g5.size; have := Z3.out; omega
  have k0 := D5.out.cell 0
  simp at k0
  have t5 : ¬ (m.gt.length : Int) > 5900 := by have := ASK.out.few; omega
  have HB : Hid (inB (n : Int) 0 15 = true) := by unfold Hid inB; simp; omega
  clear g5 G3 B3 R3 D3
  go_wp2_with (go_at_call 62; refine (spec.l01In_q n 0 15 _).mono ?_; rintro e w2 ⟨rfl, rfl⟩; rw [HB.out])
  clear k0
  refine (specl14Const_c m w2.heap.size w1.heap.size (w2.heap.size + 1) n w5 B5.out (by have := ASK.out.few; omega) hn (by omega) (by omega)).mono ?_
  rintro e w6 ⟨v6, rfl, o6, b6⟩
  obtain ⟨A6, c6, rfl, o6⟩ := o6.row
  have O6 := Lib.hid o6
  have BB6 := Lib.hid b6
  clear o6 b6
  have R6 := R5.out.chg BB6.out.2 (fun hs => by have := hs.1; omega)
  obtain ⟨A7, n7, c7, B7, m7, d7, hBg, hBr, hV, hG, hO⟩ := BS.finS BB6.out.1 (GBT.base' G5.out BB6.out.2 (by omega)) R6 (by omega) (by omega)
  have hz9 := BB6.out.2.size
  have hHO := hO _ _ _ O6.out
  simp only [setCells, Nat.zero_add, Nat.reduceAdd] at hBr hV hG hHO
  have k0 := hBg.cell 0
  have k1 := hBg.cell 1
  have r0 := R6.cell 0
  have r1 := R6.cell 1
  have f0 := R6.frozen 0
  have f1 := R6.frozen 1
  simp at k0 k1 r0 r1
  have HO7 := Lib.hid (hHO.lo (show w0.heap.size ≤ _ by omega))
  have HBR := Lib.hid hBr
  have HV7 := Lib.hid hV
  have HG7 := Lib.hid hG
  clear hBg hBr hV hG hO R6 hHO
  go_wp2_with fail
  refine ret_ct Try.results21 (by rfl) stCircuit HBR.out rfl (by rfl) ?_
  exact ⟨_, _, rfl, HV7.out, HO7.out, HG7.out⟩
set_option maxHeartbeats 4000000 in
set_option maxRecDepth 100000 in
theorem specWordAdd_c (m : CM) (A B : Option Addr) (c d : Nat) (x y : List Int) (v : Value) (w0 : World) (h : AggR w0 (ccircuit m) v) (hx : Ints w0 A 4 x) (hy : Ints w0 B 4 y) (ask : WAsk m) (wx : wordB m x) (wy : wordB m y) :
    Calls Try.prog 23 #[v, .slice A 4 c, .slice B 4 d] w0 fun e w' => ∃ V U, e = .returned (.tuple #[V, U]) ∧ aggF w0.heap.size (ccircuit (sumS m x y 0 3).2) V w' ∧ ownF w0.heap.size (cints (sumS m x y 0 3).1) U w' ∧ w0.grownBy w' none := by
  have HX := Lib.hid hx
  have HY := Lib.hid hy
  have WX := Lib.hid wx
  have WY := Lib.hid wy
  clear hx hy wx wy
  obtain ⟨u0, u1, rfl, h1, h2⟩ := ccircuit_open h
  obtain ⟨Ag, cg, rfl, _, _, _⟩ := plst_rd (s := 3) (fun _ => rfl) (by omega) h1
  obtain ⟨w1, hw1⟩ : ∃ q : World, (w0.alloc (.cells #[.slice Ag m.gt.length cg, u1] 28)).alloc (.cells #[.slice none 0 0, .slice none 0 0] 28) = q := ⟨_, rfl⟩
  have G1 : Hid (w0.grownBy w1 none) := by rw [← hw1]; exact gbA (gbA (gbR _ _) _) _
  have z1 : w0.heap.size + 2 ≤ w1.heap.size := by rw [← hw1]; simp
  have D1 : Hid (Blk w1 w0.heap.size 28 #[.slice Ag m.gt.length cg, u1]) := by rw [← hw1]; exact (Blk.new w0 _ _).grow (gbA (gbR _ _) _)
  have DR : Hid (Blk w1 (w0.heap.size + 1) 28 #[.slice none 0 0, .slice none 0 0]) := by rw [← hw1]; exact Blk.new' _ _ _ _ (by simp)
  have HV := Lib.hid h
  have ASK := Lib.hid ask
  clear h h1 h2 ask
  go_enter Try.func23, Try.ntmps23
  have k0 := D1.out.cell 0
  have k1 := D1.out.cell 1
  simp at k0 k1
  go_wp2_with fail
  clear hw1 k0 k1
  refine (specl14Copy_c m _ w1 (HV.out.grow G1.out) (by have := ASK.out.few; omega) (by have := ASK.out.outs; omega)).mono ?_
  rintro e w2 ⟨v2, rfl, o2, g2⟩
  obtain ⟨A2, n2, c2, B2, m2, d2, rfl⟩ := ccircuit_oform o2.choose_spec.1
  have z2 := g2.size
  obtain ⟨w3, hw3⟩ : ∃ q : World, w2.alloc (.cells #[.slice A2 n2 c2, .slice B2 m2 d2] 28) = q := ⟨_, rfl⟩
  have g3 : w2.grownBy w3 none := by rw [← hw3]; exact gbA (gbR _ _) _
  have B3 : Hid (BS 28 w1.heap.size (w2.heap.size + 1) m w2.heap.size w3) := by rw [← hw3]; exact Lib.hid (BS.made o2 (by omega))
  have G3 := Lib.hid (gbT G1.out (gbT g2 g3))
  have D3 := Lib.hid (D1.out.grow (gbT g2 g3))
  have R3 := Lib.hid (DR.out.grow (gbT g2 g3))
  have z3 : w3.heap.size = w2.heap.size + 1 := by rw [← hw3]; simp
  have Z3 := Lib.hid z3
  have k0 := D3.out.cell 0
  have k1 := D3.out.cell 1
  simp at k0 k1
  clear G1 D1 DR o2 g2 g3
  clear z3
  go_wp2_with fail
  clear hw3 k0 k1
  refine (specl14Ask_yes m _ A B c d x y w3 (HV.out.grow G3.out) (HX.out.grow G3.out) (HY.out.grow G3.out) ASK.out WX.out WY.out).mono ?_
  rintro e w5 ⟨rfl, g5⟩
  have G5 := Lib.hid (gbT G3.out g5)
  have B5 := Lib.hid (B3.out.grow g5)
  have R5 := Lib.hid (R3.out.grow g5)
  have z5 : w2.heap.size + 1 ≤ w5.heap.size := by have := g5.size; have := Z3.out; omega
  clear g5 G3 B3 R3 D3
  go_wp2_with fail
  refine (specl14Sum_c m w2.heap.size w1.heap.size (w2.heap.size + 1) A B c d x y 0 3 4 w5 B5.out rfl (SRV.low' HX.out G5.out (by omega)) (SRV.low' HY.out G5.out (by omega)) (by have := ASK.out.few; omega) (by omega) (by omega) (by omega)).mono ?_
  rintro e w6 ⟨v6, rfl, o6, b6⟩
  obtain ⟨A6, c6, rfl, o6⟩ := o6.row
  have O6 := Lib.hid o6
  have BB6 := Lib.hid b6
  clear o6 b6
  have R6 := R5.out.chg BB6.out.2 (fun hs => by have := hs.1; omega)
  obtain ⟨A7, n7, c7, B7, m7, d7, hBg, hBr, hV, hG, hO⟩ := BS.finS BB6.out.1 (GBT.base' G5.out BB6.out.2 (by omega)) R6 (by omega) (by omega)
  have hz9 := BB6.out.2.size
  have hHO := hO _ _ _ O6.out
  simp only [setCells, Nat.zero_add, Nat.reduceAdd] at hBr hV hG hHO
  have k0 := hBg.cell 0
  have k1 := hBg.cell 1
  have r0 := R6.cell 0
  have r1 := R6.cell 1
  have f0 := R6.frozen 0
  have f1 := R6.frozen 1
  simp at k0 k1 r0 r1
  have HO7 := Lib.hid (hHO.lo (show w0.heap.size ≤ _ by omega))
  have HBR := Lib.hid hBr
  have HV7 := Lib.hid hV
  have HG7 := Lib.hid hG
  clear hBg hBr hV hG hO R6 hHO
  go_wp2_with fail
  refine ret_ct Try.results23 (by rfl) stCircuit HBR.out rfl (by rfl) ?_
  exact ⟨_, _, rfl, HV7.out, HO7.out, HG7.out⟩
set_option maxHeartbeats 4000000 in
set_option maxRecDepth 100000 in
theorem specWordMul_c (m : CM) (A B : Option Addr) (c d : Nat) (x y : List Int) (v : Value) (w0 : World) (h : AggR w0 (ccircuit m) v) (hx : Ints w0 A 4 x) (hy : Ints w0 B 4 y) (ask : WAsk m) (wx : wordB m x) (wy : wordB m y) :
    Calls Try.prog 22 #[v, .slice A 4 c, .slice B 4 d] w0 fun e w' => ∃ V U, e = .returned (.tuple #[V, U]) ∧ aggF w0.heap.size (ccircuit (mulS m x y  3).2) V w' ∧ ownF w0.heap.size (cints (mulS m x y  3).1) U w' ∧ w0.grownBy w' none := by
  have HX := Lib.hid hx
  have HY := Lib.hid hy
  have WX := Lib.hid wx
  have WY := Lib.hid wy
  clear hx hy wx wy
  obtain ⟨u0, u1, rfl, h1, h2⟩ := ccircuit_open h
  obtain ⟨Ag, cg, rfl, _, _, _⟩ := plst_rd (s := 3) (fun _ => rfl) (by omega) h1
  obtain ⟨w1, hw1⟩ : ∃ q : World, (w0.alloc (.cells #[.slice Ag m.gt.length cg, u1] 28)).alloc (.cells #[.slice none 0 0, .slice none 0 0] 28) = q := ⟨_, rfl⟩
  have G1 : Hid (w0.grownBy w1 none) := by rw [← hw1]; exact gbA (gbA (gbR _ _) _) _
  have z1 : w0.heap.size + 2 ≤ w1.heap.size := by rw [← hw1]; simp
  have D1 : Hid (Blk w1 w0.heap.size 28 #[.slice Ag m.gt.length cg, u1]) := by rw [← hw1]; exact (Blk.new w0 _ _).grow (gbA (gbR _ _) _)
  have DR : Hid (Blk w1 (w0.heap.size + 1) 28 #[.slice none 0 0, .slice none 0 0]) := by rw [← hw1]; exact Blk.new' _ _ _ _ (by simp)
  have HV := Lib.hid h
  have ASK := Lib.hid ask
  clear h h1 h2 ask
  go_enter Try.func22, Try.ntmps22
  have k0 := D1.out.cell 0
  have k1 := D1.out.cell 1
  simp at k0 k1
  go_wp2_with fail
  clear hw1 k0 k1
  refine (specl14Copy_c m _ w1 (HV.out.grow G1.out) (by have := ASK.out.few; omega) (by have := ASK.out.outs; omega)).mono ?_
  rintro e w2 ⟨v2, rfl, o2, g2⟩
  obtain ⟨A2, n2, c2, B2, m2, d2, rfl⟩ := ccircuit_oform o2.choose_spec.1
  have z2 := g2.size
  obtain ⟨w3, hw3⟩ : ∃ q : World, w2.alloc (.cells #[.slice A2 n2 c2, .slice B2 m2 d2] 28) = q := ⟨_, rfl⟩
  have g3 : w2.grownBy w3 none := by rw [← hw3]; exact gbA (gbR _ _) _
  have B3 : Hid (BS 28 w1.heap.size (w2.heap.size + 1) m w2.heap.size w3) := by rw [← hw3]; exact Lib.hid (BS.made o2 (by omega))
  have G3 := Lib.hid (gbT G1.out (gbT g2 g3))
  have D3 := Lib.hid (D1.out.grow (gbT g2 g3))
  have R3 := Lib.hid (DR.out.grow (gbT g2 g3))
  have z3 : w3.heap.size = w2.heap.size + 1 := by rw [← hw3]; simp
  have Z3 := Lib.hid z3
  have k0 := D3.out.cell 0
  have k1 := D3.out.cell 1
  simp at k0 k1
  clear G1 D1 DR o2 g2 g3
  clear z3
  go_wp2_with fail
  clear hw3 k0 k1
  refine (specl14Ask_yes m _ A B c d x y w3 (HV.out.grow G3.out) (HX.out.grow G3.out) (HY.out.grow G3.out) ASK.out WX.out WY.out).mono ?_
  rintro e w5 ⟨rfl, g5⟩
  have G5 := Lib.hid (gbT G3.out g5)
  have B5 := Lib.hid (B3.out.grow g5)
  have R5 := Lib.hid (R3.out.grow g5)
  have z5 : w2.heap.size + 1 ≤ w5.heap.size := by have := g5.size; have := Z3.out; omega
  clear g5 G3 B3 R3 D3
  go_wp2_with fail
  refine (specl14Mul_c m w2.heap.size w1.heap.size (w2.heap.size + 1) A B c d x y w5 B5.out (SRV.low' HX.out G5.out (by omega)) (SRV.low' HY.out G5.out (by omega)) (by have := ASK.out.few; omega) (by omega) (by omega)).mono ?_
  rintro e w6 ⟨v6, rfl, o6, b6⟩
  obtain ⟨A6, c6, rfl, o6⟩ := o6.row
  have O6 := Lib.hid o6
  have BB6 := Lib.hid b6
  clear o6 b6
  have R6 := R5.out.chg BB6.out.2 (fun hs => by have := hs.1; omega)
  obtain ⟨A7, n7, c7, B7, m7, d7, hBg, hBr, hV, hG, hO⟩ := BS.finS BB6.out.1 (GBT.base' G5.out BB6.out.2 (by omega)) R6 (by omega) (by omega)
  have hz9 := BB6.out.2.size
  have hHO := hO _ _ _ O6.out
  simp only [setCells, Nat.zero_add, Nat.reduceAdd] at hBr hV hG hHO
  have k0 := hBg.cell 0
  have k1 := hBg.cell 1
  have r0 := R6.cell 0
  have r1 := R6.cell 1
  have f0 := R6.frozen 0
  have f1 := R6.frozen 1
  simp at k0 k1 r0 r1
  have HO7 := Lib.hid (hHO.lo (show w0.heap.size ≤ _ by omega))
  have HBR := Lib.hid hBr
  have HV7 := Lib.hid hV
  have HG7 := Lib.hid hG
  clear hBg hBr hV hG hO R6 hHO
  go_wp2_with fail
  refine ret_ct Try.results22 (by rfl) stCircuit HBR.out rfl (by rfl) ?_
  exact ⟨_, _, rfl, HV7.out, HO7.out, HG7.out⟩
end Go.Proofs.Ythdfkiaoahpjpaa
