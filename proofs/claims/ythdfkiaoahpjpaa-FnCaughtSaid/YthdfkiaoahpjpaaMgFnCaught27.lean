/-
  More draws: once in n, a list of numbers below p, a word.
-/
import Derived.Test.YthdfkiaoahpjpaaMgFnCaught26
import Derived.Test.YthdfkiaoahpjpaaMgFnCaught18
namespace Go.Proofs.Ythdfkiaoahpjpaa
open Go.RowKit
set_option linter.unusedVariables false
set_option linter.unusedSimpArgs false
theorem Chg.rdk {S : Nat → Prop} {w w' : World} {sz n : Nat} {A : Option Addr} {xs : List Value} (h : Rd w sz A n xs) (k : Chg S w w') (hs : 0 < n → ∀ a, A = some a → ¬ S a.block) : Rd w' sz A n xs := by
  rcases Nat.eq_zero_or_pos n with h0 | h0
  · exact ⟨h.1, fun hn => by omega⟩
  · exact Chg.rd h k (hs h0)
theorem Cur.kept {S : Nat → Prop} {w w' : World} {g : Nat} {A : Option Addr} {n c : Nat} {bs : List Int} (h : Cur w g A n c bs) (k : Chg S w w') (hg : w'.heap[g]? = w.heap[g]?) (hs : 0 < n → ∀ a, A = some a → ¬ S a.block) : Cur w' g A n c bs := by
  obtain ⟨⟨i, hh, hi, hb⟩, k2, k3, k4, k5⟩ := h
  exact ⟨⟨i, hh, hi, hg.trans hb⟩, Chg.rdk k2 k hs, k3, k4, k5⟩
theorem Cur.old {w : World} {g : Nat} {A : Option Addr} {n c : Nat} {bs : List Int} (h : Cur w g A n c bs) {y : Nat} (hy : w.heap.size ≤ y) : 0 < n → ∀ a, A = some a → a.block ≠ y := fun hn a ha e => by
  obtain ⟨b, o, rfl, hb, _⟩ := h.bytes.2 (by omega)
  injection ha with ha
  subst ha
  simp only at e
  omega
theorem gbC {a b c : World} {r : Option Nat} {S : Nat → Prop} (h : a.grownBy b r) (k : Chg S b c) (hs : ∀ i, S i → some i = r ∨ a.heap.size ≤ i) : a.grownBy c r :=
  ⟨k.os.trans h.os, k.tape.trans h.tape, k.output.trans h.output, Nat.le_trans h.size k.size, fun i hi hr => (k.block i (Nat.lt_of_lt_of_le hi h.size) fun hS => by
    rcases hs i hS with e | e
    · exact hr e
    · omega).trans (h.block i hi hr)⟩
set_option maxHeartbeats 400000 in
theorem l02Word_c (w : World) (g : Nat) (A : Option Addr) (n c : Nat) (bs : List Int) (hc : Cur w g A n c bs) :
    Calls Try.prog 113 #[.pointer (some ⟨g, 0, none⟩)] w fun e w' => ∃ x : Int, e = .returned (.int .i64 x) ∧ (0 ≤ x ∧ x ≤ 4294967295) ∧ Cur w' g A n c bs ∧ w.grownBy w' (some g) := by
  have HC := Lib.hid hc
  clear hc
  go_enter Try.func113, Try.ntmps113
  go_wp2_with fail
  refine (l01Below_c _ 4 (by omega) g A n c bs HC.out).mono ?_
  rintro e w1 ⟨x, rfl, hx0, hx1, hc1, hg1⟩
  have H1 := Lib.hid hc1
  have hlt := hc1.lt
  clear hc1 hx1
  by_cases h0 : x = 0
  · subst h0
    go_wp2_with fail
    refine (l01PickInt_c _ _ 5 5 [0, 1, 4294967295, 2147483648, 65536] (ints_new w1 _ [0, 1, 4294967295, 2147483648, 65536]) (by omega) (by omega) g (fun a ha e => by injection ha with ha; subst ha; injection e with e; simp at e; omega) A n c bs (H1.out.grow (gbA (gbR _ _) _))).mono ?_
    rintro e w2 ⟨y, rfl, hy, hc2, hg2⟩
    have H2 := Lib.hid hc2
    have HY := Lib.hid hy
    have G2 := Lib.hid (gbNN hg1 (gbT (gbW (gbA (gbR w1 none) _)) hg2) (fun _ h => .inr (by rw [h])))
    clear hc2 hy hg2
    go_wp2_with fail
    go_ret
    refine ⟨y, rfl, ?_, H2.out, G2.out⟩
    have := HY.out
    simp at this
    omega
  · have d0 : (x == 0) = false := by simpa using h0
    by_cases h1 : x = 1
    · subst h1
      go_wp2_with fail
      refine (l01Below_c _ 200 (by omega) g A n c bs H1.out).mono ?_
      rintro e w2 ⟨y, rfl, hy0, hy1, hc2, hg2⟩
      have H2 := Lib.hid hc2
      clear hc2
      go_wp2_with fail
      go_ret
      exact ⟨y, rfl, ⟨hy0, by have := hy1 (by omega); omega⟩, H2.out, gbT hg1 hg2⟩
    · have d1 : (x == 1) = false := by simpa using h1
      go_wp2_with fail
      refine (l01Below_c _ 65536 (by omega) g A n c bs H1.out).mono ?_
      rintro e w2 ⟨y, rfl, hy0, hy1, hc2, hg2⟩
      have H2 := Lib.hid hc2
      have hy2 := hy1 (by omega)
      clear hc2 hy1
      go_wp2_with fail
      refine (l01Below_c _ 65536 (by omega) g A n c bs H2.out).mono ?_
      rintro e w3 ⟨z, rfl, hz0, hz1, hc3, hg3⟩
      have H3 := Lib.hid hc3
      have hz2 := hz1 (by omega)
      clear hc3 hz1
      go_wp2_with fail
      go_ret
      exact ⟨_, rfl, by omega, H3.out, gbT (gbT hg1 hg2) hg3⟩
end Go.Proofs.Ythdfkiaoahpjpaa
/-
  A drawn arithmetic circuit: the struct that is made, and the regions that append to it.
-/
namespace Go.Proofs.Ythdfkiaoahpjpaa
open Go.RowKit
set_option linter.unusedVariables false
set_option linter.unusedSimpArgs false
section
variable {lo g : Nat} {m : AM} {u1 u2 : Value} {F1 F2 : List Nat} {w w' : World}
end
end Go.Proofs.Ythdfkiaoahpjpaa
/-
  A drawn arithmetic circuit: it is well-formed; its inputs fit.
-/
namespace Go.Proofs.Ythdfkiaoahpjpaa
open Go.RowKit
set_option linter.unusedVariables false
set_option linter.unusedSimpArgs false
end Go.Proofs.Ythdfkiaoahpjpaa
/-
  copyKeys, copyArith of the program.
-/
namespace Go.Proofs.Ythdfkiaoahpjpaa
open Go.RowKit
set_option linter.unusedVariables false
set_option linter.unusedSimpArgs false
end Go.Proofs.Ythdfkiaoahpjpaa
/-
  The program's builder: its circuit's copy, what it asks of words, sums.
-/
namespace Go.Proofs.Ythdfkiaoahpjpaa
open Go.RowKit
set_option linter.unusedVariables false
set_option linter.unusedSimpArgs false
theorem GBT.back {T : TypeId} {lo : Nat} {a b : World} (h : Chg (GBT T lo a) a b) (hlo : lo ≤ a.heap.size) {y : Nat} (k : GBT T lo b y) : GBT T lo a y := by
  refine ⟨k.1, fun cur e z hc => ?_⟩
  by_cases h2 : GBT T lo a y
  · exact h2.2 cur e z hc
  · refine k.2 cur e z ?_
    rw [h.block y (by rcases Nat.lt_or_ge y a.heap.size with h1 | h1; exact h1; rw [Array.getElem?_eq_none h1] at hc; cases hc) h2]
    exact hc
theorem GBT.new {T : TypeId} {lo : Nat} {a : World} (hlo : lo ≤ a.heap.size) {y : Nat} (h : a.heap.size ≤ y) : GBT T lo a y :=
  ⟨by omega, fun cur e z hc => by rw [Array.getElem?_eq_none h] at hc; cases hc⟩
theorem GBT.on {T : TypeId} {lo : Nat} {a b c : World} (h : Chg (GBT T lo a) a b) (hlo : lo ≤ a.heap.size) (k : Chg (GBT T lo b) b c) : Chg (GBT T lo a) b c := k.mono fun y hy => GBT.back h hlo hy
theorem Ints.val {w : World} {b o n : Nat} {xs : List Int} (h : Ints w (some ⟨b, o, none⟩) n xs) {j : Nat} (hj : j < n) : w.cell? ⟨b, o + j, none⟩ = some (.int .i64 (xs.getD j 0)) := by
  obtain ⟨b', o', e, _, hc⟩ := h.at_ (by omega)
  injection e with e
  injection e with e1 e2 _
  subst e1; subst e2
  exact hc j hj
section
variable {ops : Array Oper} {rest : List Oper} {o : Oper} {a : Act} {Q : Exit → Act → World → Prop}
end
end Go.Proofs.Ythdfkiaoahpjpaa
