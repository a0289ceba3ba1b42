/-
  l32One, l32Ask of the reference.
-/
import Derived.Test.YthdfkiaoahpjpaaMgFnCaught37
namespace Go.Proofs.Ythdfkiaoahpjpaa
open Go.RowKit
set_option linter.unusedVariables false
set_option linter.unusedSimpArgs false
end Go.Proofs.Ythdfkiaoahpjpaa
/-
  CopiesNew of the reference: the answer for all arguments.
-/
namespace Go.Proofs.Ythdfkiaoahpjpaa
open Go.RowKit
set_option linter.unusedVariables false
set_option linter.unusedSimpArgs false
end Go.Proofs.Ythdfkiaoahpjpaa
/-
  samePublic and its like; which copy is found, in plain numbers.
-/
namespace Go.Proofs.Ythdfkiaoahpjpaa
open Go.RowKit
set_option linter.unusedVariables false
set_option linter.unusedSimpArgs false
def sameP (p q : PbM) : Bool := p.ts == q.ts && p.cs == q.cs && p.ds == q.ds
theorem sameP_refl (p : PbM) : sameP p p = true := by simp [sameP]
def pbS (p : PbM) : Prop := p.ts.length ≤ 4611686018427387903 ∧ p.cs.length ≤ 4611686018427387903 ∧ p.ds.length ≤ 4611686018427387903
theorem same_g (A B : Option Addr) (n m c d : Nat) (xs ys : List Int) (w : World) (t : Bool) (ht : (xs == ys) = t) (hx : Ints w A n xs) (hy : Ints w B m ys) (hn : n ≤ 4611686018427387903) (hm : m ≤ 4611686018427387903) :
    Calls Try.prog 111 #[.slice A n c, .slice B m d] w fun e w' => e = .returned (.bool t) ∧ w.grownBy w' none := by
  subst ht
  exact (same_c A B n m c d xs ys w hx hy hn hm).mono fun e w' ⟨h, q, hq⟩ => ⟨h, by rw [hq]; exact gbDN (gbR _ _) q⟩
set_option maxHeartbeats 800000 in
theorem sameP_c (p q : PbM) (v u : Value) (w0 : World) (sp : pbS p) (sq : pbS q) (h : AggR w0 (cpb p) v) (k : AggR w0 (cpb q) u) :
    Calls Try.prog 85 #[v, u] w0 fun e w' => e = .returned (.bool (sameP p q)) ∧ w0.grownBy w' none := by
  obtain ⟨A0, a0, A1, a1, A2, a2, rfl, h0, h1, h2⟩ := cpb_open h
  obtain ⟨B0, b0, B1, b1, B2, b2, rfl, k0, k1, k2⟩ := cpb_open k
  obtain ⟨lh0, _, mh0, ih0⟩ := cints_rd' h0
  obtain ⟨lh1, _, mh1, ih1⟩ := cints_rd' h1
  obtain ⟨lh2, _, mh2, ih2⟩ := cints_rd' h2
  obtain ⟨lk0, _, mk0, ik0⟩ := cints_rd' k0
  obtain ⟨lk1, _, mk1, ik1⟩ := cints_rd' k1
  obtain ⟨lk2, _, mk2, ik2⟩ := cints_rd' k2
  have I0 := Lib.hid ih0
  have I1 := Lib.hid ih1
  have I2 := Lib.hid ih2
  have J0 := Lib.hid ik0
  have J1 := Lib.hid ik1
  have J2 := Lib.hid ik2
  obtain ⟨M0, M1, M2⟩ := sp
  obtain ⟨N0, N1, N2⟩ := sq
  generalize p.ts.length = x0 at *
  generalize p.cs.length = x1 at *
  generalize p.ds.length = x2 at *
  generalize q.ts.length = y0 at *
  generalize q.cs.length = y1 at *
  generalize q.ds.length = y2 at *
  obtain ⟨t0, ht0⟩ : ∃ t, (p.ts == q.ts) = t := ⟨_, rfl⟩
  obtain ⟨t1, ht1⟩ : ∃ t, (p.cs == q.cs) = t := ⟨_, rfl⟩
  obtain ⟨t2, ht2⟩ : ∃ t, (p.ds == q.ds) = t := ⟨_, rfl⟩
  have HP : Hid (sameP p q = (t0 && t1 && t2)) := by unfold sameP; rw [ht0, ht1, ht2]; exact Lib.hid rfl
  have HT0 := Lib.hid ht0
  have HT1 := Lib.hid ht1
  have HT2 := Lib.hid ht2
  clear h k h0 h1 h2 k0 k1 k2 ih0 ih1 ih2 ik0 ik1 ik2 lh0 lh1 lh2 lk0 lk1 lk2 mh0 mh1 mh2 mk0 mk1 mk2 ht0 ht1 ht2
  obtain ⟨w1, hw1⟩ : ∃ x : World, (w0.alloc (.cells #[.slice A0 x0 a0, .slice A1 x1 a1, .slice A2 x2 a2] 70)).alloc (.cells #[.slice B0 y0 b0, .slice B1 y1 b1, .slice B2 y2 b2] 70) = x := ⟨_, rfl⟩
  have G1 : Hid (w0.grownBy w1 none) := by rw [← hw1]; exact Lib.hid (gbA (gbA (gbR _ _) _) _)
  have D1 : Hid (Blk w1 w0.heap.size 70 #[.slice A0 x0 a0, .slice A1 x1 a1, .slice A2 x2 a2]) := by rw [← hw1]; exact Lib.hid ((Blk.new w0 _ _).grow (gbA (gbR _ _) _))
  have E1 : Hid (Blk w1 (w0.heap.size + 1) 70 #[.slice B0 y0 b0, .slice B1 y1 b1, .slice B2 y2 b2]) := by rw [← hw1]; exact Lib.hid (Blk.new' _ _ _ _ (by simp))
  have c0 := D1.out.cell 0
  have e0 := E1.out.cell 0
  simp at c0 e0
  go_enter Try.func85, Try.ntmps85
  cases t0 with
  | false =>
    go_wp2_with (go_at_call 111; with_reducible refine (same_g A0 B0 x0 y0 a0 b0 _ _ w1 _ HT0.out (I0.out.grow G1.out) (J0.out.grow G1.out) M0 N0).mono ?_; rintro e w2 ⟨rfl, g2⟩; have c1 := (D1.out.grow g2).cell 1; have e1 := (E1.out.grow g2).cell 1; simp at c1 e1)
    go_ret
    exact ⟨retB (by rw [HP.out]; rfl), gbT G1.out g2⟩
  | true =>
    cases t1 with
    | false =>
      go_wp2_with (first | (go_at_call 111; with_reducible refine (same_g A0 B0 x0 y0 a0 b0 _ _ w1 _ HT0.out (I0.out.grow G1.out) (J0.out.grow G1.out) M0 N0).mono ?_; rintro e w2 ⟨rfl, g2⟩; have c1 := (D1.out.grow g2).cell 1; have e1 := (E1.out.grow g2).cell 1; simp at c1 e1) | (go_at_call 111; with_reducible refine (same_g A1 B1 x1 y1 a1 b1 _ _ w2 _ HT1.out (I1.out.grow (gbT G1.out g2)) (J1.out.grow (gbT G1.out g2)) M1 N1).mono ?_; rintro e w3 ⟨rfl, g3⟩; have c2 := (D1.out.grow (gbT g2 g3)).cell 2; have e2 := (E1.out.grow (gbT g2 g3)).cell 2; simp at c2 e2))
      go_ret
      exact ⟨retB (by rw [HP.out]; rfl), gbT (gbT G1.out g2) g3⟩
    | true =>
      go_wp2_with (first | (go_at_call 111; with_reducible refine (same_g A0 B0 x0 y0 a0 b0 _ _ w1 _ HT0.out (I0.out.grow G1.out) (J0.out.grow G1.out) M0 N0).mono ?_; rintro e w2 ⟨rfl, g2⟩; have c1 := (D1.out.grow g2).cell 1; have e1 := (E1.out.grow g2).cell 1; simp at c1 e1) | (go_at_call 111; with_reducible refine (same_g A1 B1 x1 y1 a1 b1 _ _ w2 _ HT1.out (I1.out.grow (gbT G1.out g2)) (J1.out.grow (gbT G1.out g2)) M1 N1).mono ?_; rintro e w3 ⟨rfl, g3⟩; have c2 := (D1.out.grow (gbT g2 g3)).cell 2; have e2 := (E1.out.grow (gbT g2 g3)).cell 2; simp at c2 e2) | (go_at_call 111; with_reducible refine (same_g A2 B2 x2 y2 a2 b2 _ _ w3 _ HT2.out (I2.out.grow (gbT (gbT G1.out g2) g3)) (J2.out.grow (gbT (gbT G1.out g2) g3)) M2 N2).mono ?_; rintro e w4 ⟨rfl, g4⟩))
      go_ret
      exact ⟨retB (by rw [HP.out]; rfl), gbT (gbT (gbT G1.out g2) g3) g4⟩
end Go.Proofs.Ythdfkiaoahpjpaa
