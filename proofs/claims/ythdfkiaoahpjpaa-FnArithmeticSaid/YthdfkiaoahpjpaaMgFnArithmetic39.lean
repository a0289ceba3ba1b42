/-
  The program's circuits for words: the call's head and end; sums and differences.
-/
import Derived.Test.YthdfkiaoahpjpaaMgFnArithmetic37
namespace Go.Proofs.Ythdfkiaoahpjpaa
open Go.RowKit
set_option linter.unusedVariables false
set_option linter.unusedSimpArgs false
theorem mat_two {w : World} {g n c m d : Nat} {A B : Option Addr} {x y : List Int} {t : TypeId} (hB : Blk w g t #[.slice A n c, .slice B m d]) (hg : g < w.heap.size) (hx : Ints w A n x) (hc : n ≤ c) (hc2 : c ≤ maxLen) (hy : Ints w B m y) (hd : m ≤ d) (hd2 : d ≤ maxLen) : Mat w (some ⟨g, 0, none⟩) 2 [x, y] := by
  refine ⟨[.slice A n c, .slice B m d], rfl, fun i cd v hcd hv => ?_, rfl, fun _ => ⟨g, 0, rfl, hg, fun j hj => ?_⟩⟩
  · have lx := hx.len
    have ly := hy.len
    subst lx; subst ly
    rcases i with _ | _ | i
    · simp only [List.map_cons, List.getElem?_cons_zero, Option.some.injEq] at hcd hv
      subst hcd; subst hv
      exact ⟨A, c, rfl, hc, hc2, hx⟩
    · simp only [List.map_cons, List.getElem?_cons_zero, List.getElem?_cons_succ, Option.some.injEq] at hcd hv
      subst hcd; subst hv
      exact ⟨B, d, rfl, hd, hd2, hy⟩
    · simp at hcd
  · have := hB.cell j
    simpa using this
theorem BS.made {T : TypeId} {lo : Nat} {m : CM} {u0 u1 : Value} {w : World} (h : aggF lo (ccircuit m) (.agg #[u0, u1]) w) (hlo : lo ≤ w.heap.size) : BS T lo (w.heap.size + 1) m w.heap.size (w.alloc (.cells #[u0, u1] T)) := by
  obtain ⟨F, hF, hl⟩ := h
  obtain ⟨v0, v1, F0, F1, e, rfl, o0, o1, _⟩ := ccircuit_oopen hF
  injection e with e
  injection e with e
  injection e with e0 e
  injection e with e1 _
  subst e0; subst e1
  have gA := gbA (gbR w none) (.cells #[u0, u1] T)
  exact ⟨hlo, by omega, u0, u1, F0, F1, Blk.new w _ _, own_growK _ o0 gA, own_growK _ o1 gA, fun x hx => hl x (by simp [hx]), fun x hx => ⟨hl x (by simp [hx]), by have := CS.lt _ o1 x hx; omega⟩⟩
theorem Blk.gbt {T U : TypeId} {lo y : Nat} {a b : World} {us : Array Value} (h : Blk a y U us) (k : Chg (GBT T lo a) a b) (h1 : U ≠ T) (h2 : U ≠ 41) : Blk b y U us := h.chg k fun hs => by
  unfold Blk at h
  rcases hs.2 _ _ _ h with e | e
  · exact h1 e
  · exact h2 e
theorem BS.fin {hi g r : Nat} {M : CM} {w0 wE : World} {a0 a1 : Value} (b : BS 77 w0.heap.size hi M g wE) (k : w0.grownBy wE none) (R : Blk wE r 28 #[a0, a1]) (hr : w0.heap.size ≤ r) :
    ∃ A n c B n' c', Blk wE g 77 #[.slice A n c, .slice B n' c'] ∧ Blk (setCells wE r 0 [.slice A n c, .slice B n' c']) r 28 #[.slice A n c, .slice B n' c'] ∧ aggF w0.heap.size (ccircuit M) (.agg #[.slice A n c, .slice B n' c']) (setCells wE r 0 [.slice A n c, .slice B n' c']) ∧ w0.grownBy (setCells wE r 0 [.slice A n c, .slice B n' c']) none ∧
      ∀ l2 xs v, ownF l2 (cints xs) v wE → ownF l2 (cints xs) v (setCells wE r 0 [.slice A n c, .slice B n' c']) := by
  obtain ⟨_, _, u0, u1, F0, F1, hb, o0, o1, l0, l1⟩ := b
  obtain ⟨A, n, c, rfl⟩ := row_form o0
  obtain ⟨B, n', c', rfl⟩ := row_form o1
  have hC := chg_setCells r [.slice A n c, .slice B n' c'] 0 wE
  refine ⟨A, n, c, B, n', c', hb, blk_setCells R [.slice A n c, .slice B n' c'] rfl, ⟨_, ccircuit_omk (own_chgK _ o0 hC fun y hy e => ?_) (own_chgK _ o1 hC fun y hy e => ?_) (fun y h0 h1 => ?_), fun y hy => ?_⟩, gb_chg k hC hr, fun l2 xs v ⟨F, h1, h2⟩ => ⟨F, own_chgK _ h1 hC fun y hy e => ?_, h2⟩⟩
  · rw [e] at hy
    exact own_ty (Ts := [41]) (tyd_plst (by simp)) o0 R (by decide) hy
  · rw [e] at hy
    exact own_ty (Ts := [3]) (tyd_plst (by simp)) o1 R (by decide) hy
  · obtain ⟨cur, e, z, hc, he⟩ := (tyd_plst (Ts := [41]) (by simp)) wE F0 _ o0 y h0
    obtain ⟨cur2, e2, z2, hc2, he2⟩ := (tyd_plst (Ts := [3]) (by simp)) wE F1 _ o1 y h1
    rw [hc] at hc2
    injection hc2 with hc2
    injection hc2 with _ h3 _
    have he : e = 41 := by simpa using he
    have he2 : e2 = 3 := by simpa using he2
    rw [← h3, he] at he2
    exact absurd he2 (by decide)
  · simp only [List.flatten_cons, List.flatten_nil, List.append_nil, List.mem_append] at hy
    rcases hy with hy | hy
    · exact l0 y hy
    · exact (l1 y hy).1
  · rw [e] at hy
    exact own_ty (Ts := [3]) (tyd_plst (by simp)) h1 R (by decide) hy
structure WAsk (m : CM) : Prop where
  ok : COk m
  few : m.gt.length ≤ 5900
  outs : m.outs.length ≤ 1000000
def wordB (m : CM) (r : List Int) : Prop := r.length = 4 ∧ ∀ z ∈ r, inB z 0 (m.gt.length - 1) = true
set_option maxHeartbeats 4000000 in
set_option maxRecDepth 100000 in
theorem implWordAdd_c (m : CM) (A B : Option Addr) (c d : Nat) (x y : List Int) (v : Value) (w0 : World) (h : AggR w0 (ccircuit m) v) (hx : Ints w0 A 4 x) (hc : 4 ≤ c) (hc2 : c ≤ maxLen) (hy : Ints w0 B 4 y) (hd : 4 ≤ d) (hd2 : d ≤ maxLen) (ask : WAsk m) (wx : wordB m x) (wy : wordB m y) :
    Calls Try.prog 17 #[v, .slice A 4 c, .slice B 4 d] w0 fun e w' => ∃ V U, e = .returned (.tuple #[V, U]) ∧ aggF w0.heap.size (ccircuit (sumM m x y 0 0).2) V w' ∧ ownF w0.heap.size (cints (sumM m x y 0 0).1) U w' ∧ w0.grownBy w' none := by
  obtain ⟨u0, u1, rfl, h1, h2⟩ := ccircuit_open h
  obtain ⟨Ag, cg, rfl, _, _, _⟩ := plst_rd (s := 3) (fun _ => rfl) (by omega) h1
  obtain ⟨w1, hw1⟩ : ∃ q : World, (w0.alloc (.cells #[.slice Ag m.gt.length cg, u1] 28)).alloc (.cells #[.slice none 0 0, .slice none 0 0] 28) = q := ⟨_, rfl⟩
  have G1 : Hid (w0.grownBy w1 none) := by rw [← hw1]; exact gbA (gbA (gbR _ _) _) _
  have z1 : w0.heap.size + 2 ≤ w1.heap.size := by rw [← hw1]; simp
  have D1 : Hid (Blk w1 w0.heap.size 28 #[.slice Ag m.gt.length cg, u1]) := by rw [← hw1]; exact (Blk.new w0 _ _).grow (gbA (gbR _ _) _)
  have DR : Hid (Blk w1 (w0.heap.size + 1) 28 #[.slice none 0 0, .slice none 0 0]) := by rw [← hw1]; exact Blk.new' _ _ _ _ (by simp)
  have HV := Lib.hid h
  have HX := Lib.hid hx
  have HY := Lib.hid hy
  have ASK := Lib.hid ask
  have WX := Lib.hid wx
  have WY := Lib.hid wy
  have HC := Lib.hid hc2
  have HD := Lib.hid hd2
  clear h h1 h2 hx hy ask wx wy hc2 hd2
  go_enter Try.func17, Try.ntmps17
  have k0 := D1.out.cell 0
  have k1 := D1.out.cell 1
  simp at k0 k1
  go_wp2_with fail
  clear hw1 k0 k1
  refine (implcopyCircuit_c m _ w1 (HV.out.grow G1.out) (by have := ASK.out.few; omega) (by have := ASK.out.outs; omega)).mono ?_
  rintro e w2 ⟨v2, rfl, o2, g2⟩
  obtain ⟨A2, n2, c2, B2, m2, d2, rfl⟩ := ccircuit_oform o2.choose_spec.1
  have z2 := g2.size
  obtain ⟨w3, hw3⟩ : ∃ q : World, w2.alloc (.cells #[.slice A2 n2 c2, .slice B2 m2 d2] 77) = q := ⟨_, rfl⟩
  have g3 : w2.grownBy w3 none := by rw [← hw3]; exact gbA (gbR _ _) _
  have B3 : Hid (BS 77 w0.heap.size (w2.heap.size + 1) m w2.heap.size w3) := by rw [← hw3]; exact Lib.hid (BS.made (o2.lo (by omega)) (by omega))
  have G3 := Lib.hid (gbT G1.out (gbT g2 g3))
  have D3 := Lib.hid (D1.out.grow (gbT g2 g3))
  have R3 := Lib.hid (DR.out.grow (gbT g2 g3))
  have z3 : w3.heap.size = w2.heap.size + 1 := by rw [← hw3]; simp
  have Z3 := Lib.hid z3
  have k0 := D3.out.cell 0
  have k1 := D3.out.cell 1
  simp at k0 k1
  clear G1 D1 DR o2 g2 g3
  clear z3
  go_wp2_with fail
  have gA := gbA (gbR w3 none) (.cells #[.slice A 4 c, .slice B 4 d] 24)
  refine (implisWordOf_yes m _ [x, y] _ 2 2 _ (HV.out.grow (gbT G3.out gA)) (mat_two (Blk.new w3 _ _) (by simp) ((HX.out.grow G3.out).grow gA) hc HC.out ((HY.out.grow G3.out).grow gA) hd HD.out) ASK.out.ok ASK.out.few (fun r hr => by
    simp at hr
    rcases hr with rfl | rfl
    · exact WX.out
    · exact WY.out) (by omega)).mono ?_
  rintro e w5 ⟨rfl, g5⟩
  have g35 := gbT gA g5
  have B5 := Lib.hid (B3.out.grow g35)
  have G5 := Lib.hid (gbT G3.out g35)
  have R5 := Lib.hid (R3.out.grow g35)
  have D5 := Lib.hid (D3.out.grow g35)
  have z5 : w2.heap.size + 1 ≤ w5.heap.size := by have := g35.size; have := Z3.out; omega
  clear gA g5 g35 B3 G3 R3 D3 hw3 k0 k1 Z3
  go_wp2_with fail
  refine (implsum_c m w2.heap.size w0.heap.size (w2.heap.size + 1) A B c d x y 0 0 w5 B5.out (SRV.low HX.out G5.out) (SRV.low HY.out G5.out) hc HC.out (by have := ASK.out.few; omega) (by omega) (by omega) (by omega)).mono ?_
  rintro e w6 ⟨v6, rfl, o6, b6⟩
  obtain ⟨A6, c6, rfl, o6⟩ := o6.row
  have O6 := Lib.hid o6
  have BB6 := Lib.hid b6
  clear o6 b6
  have R6 := R5.out.gbt BB6.out.2 (by decide) (by decide)
  obtain ⟨A7, n7, c7, B7, m7, d7, hBg, hBr, hV, hG, hO⟩ := BS.fin BB6.out.1 (GBT.base G5.out BB6.out.2) R6 (by omega)
  have hz9 := BB6.out.2.size
  simp only [setCells, Nat.zero_add, Nat.reduceAdd] at hBr hV hG
  have k0 := hBg.cell 0
  have k1 := hBg.cell 1
  have r0 := R6.cell 0
  have r1 := R6.cell 1
  have f0 := R6.frozen 0
  have f1 := R6.frozen 1
  simp at k0 k1 r0 r1
  have HO7 := Lib.hid (by have := hO _ _ _ O6.out; simp only [setCells, Nat.zero_add, Nat.reduceAdd] at this; exact this.lo (show w0.heap.size ≤ w5.heap.size by omega))
  have HBR := Lib.hid hBr
  have HV7 := Lib.hid hV
  have HG7 := Lib.hid hG
  clear hBg hBr hV hG hO R6
  go_wp2_with fail
  refine ret_ct Try.results17 (by rfl) stCircuit HBR.out rfl (by rfl) ?_
  exact ⟨_, _, rfl, HV7.out, HO7.out, HG7.out⟩
def subM (m : CM) (x y : List Int) : List Int × CM := sumM (notsTo m y 4).2 x (notsTo m y 4).1 1 0
set_option maxHeartbeats 4000000 in
set_option maxRecDepth 100000 in
theorem implWordSub_c (m : CM) (A B : Option Addr) (c d : Nat) (x y : List Int) (v : Value) (w0 : World) (h : AggR w0 (ccircuit m) v) (hx : Ints w0 A 4 x) (hc : 4 ≤ c) (hc2 : c ≤ maxLen) (hy : Ints w0 B 4 y) (hd : 4 ≤ d) (hd2 : d ≤ maxLen) (ask : WAsk m) (wx : wordB m x) (wy : wordB m y) :
    Calls Try.prog 18 #[v, .slice A 4 c, .slice B 4 d] w0 fun e w' => ∃ V U, e = .returned (.tuple #[V, U]) ∧ aggF w0.heap.size (ccircuit (subM m x y).2) V w' ∧ ownF w0.heap.size (cints (subM m x y).1) U w' ∧ w0.grownBy w' none := by
  obtain ⟨u0, u1, rfl, h1, h2⟩ := ccircuit_open h
  obtain ⟨Ag, cg, rfl, _, _, _⟩ := plst_rd (s := 3) (fun _ => rfl) (by omega) h1
  obtain ⟨w1, hw1⟩ : ∃ q : World, (w0.alloc (.cells #[.slice Ag m.gt.length cg, u1] 28)).alloc (.cells #[.slice none 0 0, .slice none 0 0] 28) = q := ⟨_, rfl⟩
  have G1 : Hid (w0.grownBy w1 none) := by rw [← hw1]; exact gbA (gbA (gbR _ _) _) _
  have z1 : w0.heap.size + 2 ≤ w1.heap.size := by rw [← hw1]; simp
  have D1 : Hid (Blk w1 w0.heap.size 28 #[.slice Ag m.gt.length cg, u1]) := by rw [← hw1]; exact (Blk.new w0 _ _).grow (gbA (gbR _ _) _)
  have DR : Hid (Blk w1 (w0.heap.size + 1) 28 #[.slice none 0 0, .slice none 0 0]) := by rw [← hw1]; exact Blk.new' _ _ _ _ (by simp)
  have HV := Lib.hid h
  have HX := Lib.hid hx
  have HY := Lib.hid hy
  have ASK := Lib.hid ask
  have WX := Lib.hid wx
  have WY := Lib.hid wy
  have HC := Lib.hid hc2
  have HD := Lib.hid hd2
  clear h h1 h2 hx hy ask wx wy hc2 hd2
  go_enter Try.func18, Try.ntmps18
  have k0 := D1.out.cell 0
  have k1 := D1.out.cell 1
  simp at k0 k1
  go_wp2_with fail
  clear hw1 k0 k1
  refine (implcopyCircuit_c m _ w1 (HV.out.grow G1.out) (by have := ASK.out.few; omega) (by have := ASK.out.outs; omega)).mono ?_
  rintro e w2 ⟨v2, rfl, o2, g2⟩
  obtain ⟨A2, n2, c2, B2, m2, d2, rfl⟩ := ccircuit_oform o2.choose_spec.1
  have z2 := g2.size
  obtain ⟨w3, hw3⟩ : ∃ q : World, w2.alloc (.cells #[.slice A2 n2 c2, .slice B2 m2 d2] 77) = q := ⟨_, rfl⟩
  have g3 : w2.grownBy w3 none := by rw [← hw3]; exact gbA (gbR _ _) _
  have B3 : Hid (BS 77 w0.heap.size (w2.heap.size + 1) m w2.heap.size w3) := by rw [← hw3]; exact Lib.hid (BS.made (o2.lo (by omega)) (by omega))
  have G3 := Lib.hid (gbT G1.out (gbT g2 g3))
  have D3 := Lib.hid (D1.out.grow (gbT g2 g3))
  have R3 := Lib.hid (DR.out.grow (gbT g2 g3))
  have z3 : w3.heap.size = w2.heap.size + 1 := by rw [← hw3]; simp
  have Z3 := Lib.hid z3
  have k0 := D3.out.cell 0
  have k1 := D3.out.cell 1
  simp at k0 k1
  clear G1 D1 DR o2 g2 g3
  clear z3
  go_wp2_with fail
  have gA := gbA (gbR w3 none) (.cells #[.slice A 4 c, .slice B 4 d] 24)
  refine (implisWordOf_yes m _ [x, y] _ 2 2 _ (HV.out.grow (gbT G3.out gA)) (mat_two (Blk.new w3 _ _) (by simp) ((HX.out.grow G3.out).grow gA) hc HC.out ((HY.out.grow G3.out).grow gA) hd HD.out) ASK.out.ok ASK.out.few (fun r hr => by
    simp at hr
    rcases hr with rfl | rfl
    · exact WX.out
    · exact WY.out) (by omega)).mono ?_
  rintro e w5 ⟨rfl, g5⟩
  have g35 := gbT gA g5
  have B5 := Lib.hid (B3.out.grow g35)
  have G5 := Lib.hid (gbT G3.out g35)
  have R5 := Lib.hid (R3.out.grow g35)
  have D5 := Lib.hid (D3.out.grow g35)
  have z5 : w2.heap.size + 1 ≤ w5.heap.size := by have := g35.size; have := Z3.out; omega
  clear gA g5 g35 B3 G3 R3 D3 hw3 k0 k1 Z3
  go_wp2_with fail
  refine (implnots_c m w2.heap.size w0.heap.size (w2.heap.size + 1) B 4 d y w5 B5.out (SRV.low HY.out G5.out) (by have := ASK.out.few; omega) (by omega) (by omega) (by omega)).mono ?_
  rintro e w6 ⟨v6, rfl, o6, b6⟩
  obtain ⟨ln1, ln2⟩ := nots_len m y 4
  obtain ⟨A6, c6, rfl, o6⟩ := o6.row
  obtain ⟨p, hp⟩ : ∃ p, notsTo m y 4 = p := ⟨_, rfl⟩
  have HM : Hid (subM m x y = sumM p.2 x p.1 1 0) := by unfold Hid subM; rw [hp]
  rw [hp] at ln1 ln2 o6 b6 ⊢
  rw [ln1] at o6 ⊢
  have z6 := b6.2.size
  have O6 := Lib.hid o6
  have BB6 := Lib.hid b6
  have G6 := Lib.hid (GBT.base G5.out b6.2)
  have L2 := Lib.hid ln2
  clear o6 b6 ln1 ln2 hp
  go_wp2_with fail
  refine (implsum_c p.2 w2.heap.size w0.heap.size (w2.heap.size + 1) A A6 c c6 x p.1 1 0 w6 BB6.out.1 (SRV.low HX.out G6.out) (SRV.own O6.out hT9) hc HC.out (by have := ASK.out.few; have := L2.out; omega) (by omega) (by omega) (by omega)).mono ?_
  rintro e w7 ⟨v7, rfl, o7, b7⟩
  obtain ⟨A8, c8, rfl, o7⟩ := o7.row
  have O7 := Lib.hid (o7.lo (show w5.heap.size ≤ w6.heap.size by omega))
  have BB7 := Lib.hid (BB6.out.trans b7)
  clear o7 b7
  have R6 := R5.out.gbt BB7.out.2 (by decide) (by decide)
  obtain ⟨A7, n7, c7, B7, m7, d7, hBg, hBr, hV, hG, hO⟩ := BS.fin BB7.out.1 (GBT.base G5.out BB7.out.2) R6 (by omega)
  have hz9 := BB7.out.2.size
  simp only [setCells, Nat.zero_add, Nat.reduceAdd] at hBr hV hG
  have k0 := hBg.cell 0
  have k1 := hBg.cell 1
  have r0 := R6.cell 0
  have r1 := R6.cell 1
  have f0 := R6.frozen 0
  have f1 := R6.frozen 1
  simp at k0 k1 r0 r1
  have HO7 := Lib.hid (by have := hO _ _ _ O7.out; simp only [setCells, Nat.zero_add, Nat.reduceAdd] at this; exact this.lo (show w0.heap.size ≤ w5.heap.size by omega))
  have HBR := Lib.hid hBr
  have HV7 := Lib.hid hV
  have HG7 := Lib.hid hG
  clear hBg hBr hV hG hO R6
  go_wp2_with fail
  refine ret_ct Try.results18 (by rfl) stCircuit HBR.out rfl (by rfl) ?_
  rw [HM.out]
  exact ⟨_, _, rfl, HV7.out, HO7.out, HG7.out⟩
end Go.Proofs.Ythdfkiaoahpjpaa
