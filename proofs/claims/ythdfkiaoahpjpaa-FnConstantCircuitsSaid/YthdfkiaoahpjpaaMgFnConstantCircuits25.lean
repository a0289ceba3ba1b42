/-
  TripleUse of the program.
-/
import Derived.Test.YthdfkiaoahpjpaaMgFnConstantCircuits24
import Derived.Test.YthdfkiaoahpjpaaMgFnConstantCircuits9
import Derived.Test.YthdfkiaoahpjpaaMgFnConstantCircuits23
namespace Go.Proofs.Ythdfkiaoahpjpaa
open Go.RowKit
set_option linter.unusedVariables false
set_option linter.unusedSimpArgs false
end Go.Proofs.Ythdfkiaoahpjpaa
/-
  valueIn and TripleOpen of the program.
-/
namespace Go.Proofs.Ythdfkiaoahpjpaa
open Go.RowKit
set_option linter.unusedVariables false
set_option linter.unusedSimpArgs false
end Go.Proofs.Ythdfkiaoahpjpaa
/-
  TripleNew of the program, where it answers.
-/
namespace Go.Proofs.Ythdfkiaoahpjpaa
open Go.RowKit
set_option linter.unusedVariables false
set_option linter.unusedSimpArgs false
def OwnE (w : World) (cs : List CS) (vs : List Value) : Prop := vs.length = cs.length ∧ ∀ (i : Nat) (c : CS) (v : Value), cs[i]? = some c → vs[i]? = some v → ∃ F, c.own w F v
def AggE (w : World) (cs : List CS) (v : Value) : Prop := ∃ vs : List Value, v = .agg vs.toArray ∧ OwnE w cs vs
theorem OwnE.rd {w : World} {cs : List CS} {vs : List Value} (h : OwnE w cs vs) : RdAll w cs vs := ⟨h.1, fun i c v hc hv => by
  obtain ⟨F, hF⟩ := h.2 i c v hc hv
  exact c.toRd hF⟩
theorem AggE.rd {w : World} {cs : List CS} {v : Value} (h : AggE w cs v) : AggR w cs v := by
  obtain ⟨vs, rfl, h⟩ := h
  exact ⟨vs, rfl, h.rd⟩
theorem OwnE.append {w : World} {cs ds : List CS} {vs us : List Value} (h : OwnE w cs vs) (k : OwnE w ds us) : OwnE w (cs ++ ds) (vs ++ us) := by
  refine ⟨by simp [h.1, k.1], fun i c v hc hv => ?_⟩
  rw [List.getElem?_append] at hc hv
  rw [h.1] at hv
  split at hc
  · rename_i hl
    rw [if_pos hl] at hv
    exact h.2 i c v hc hv
  · rename_i hl
    rw [if_neg hl] at hv
    exact k.2 _ c v hc hv
end Go.Proofs.Ythdfkiaoahpjpaa
/-
  isZeroAuth of the program.
-/
namespace Go.Proofs.Ythdfkiaoahpjpaa
open Go.RowKit
set_option linter.unusedVariables false
set_option linter.unusedSimpArgs false
end Go.Proofs.Ythdfkiaoahpjpaa
/-
  copyAuth of the program.
-/
namespace Go.Proofs.Ythdfkiaoahpjpaa
open Go.RowKit
set_option linter.unusedVariables false
set_option linter.unusedSimpArgs false
end Go.Proofs.Ythdfkiaoahpjpaa
/-
  More draws: once in n, a list of numbers below p, a word.
-/
namespace Go.Proofs.Ythdfkiaoahpjpaa
open Go.RowKit
set_option linter.unusedVariables false
set_option linter.unusedSimpArgs false
theorem Chg.rdk {S : Nat → Prop} {w w' : World} {sz n : Nat} {A : Option Addr} {xs : List Value} (h : Rd w sz A n xs) (k : Chg S w w') (hs : 0 < n → ∀ a, A = some a → ¬ S a.block) : Rd w' sz A n xs := by
  rcases Nat.eq_zero_or_pos n with h0 | h0
  · exact ⟨h.1, fun hn => by omega⟩
  · exact Chg.rd h k (hs h0)
theorem Cur.kept {S : Nat → Prop} {w w' : World} {g : Nat} {A : Option Addr} {n c : Nat} {bs : List Int} (h : Cur w g A n c bs) (k : Chg S w w') (hg : w'.heap[g]? = w.heap[g]?) (hs : 0 < n → ∀ a, A = some a → ¬ S a.block) : Cur w' g A n c bs := by
  obtain ⟨⟨i, hh, hi, hb⟩, k2, k3, k4, k5⟩ := h
  exact ⟨⟨i, hh, hi, hg.trans hb⟩, Chg.rdk k2 k hs, k3, k4, k5⟩
theorem Cur.old {w : World} {g : Nat} {A : Option Addr} {n c : Nat} {bs : List Int} (h : Cur w g A n c bs) {y : Nat} (hy : w.heap.size ≤ y) : 0 < n → ∀ a, A = some a → a.block ≠ y := fun hn a ha e => by
  obtain ⟨b, o, rfl, hb, _⟩ := h.bytes.2 (by omega)
  injection ha with ha
  subst ha
  simp only at e
  omega
theorem gbC {a b c : World} {r : Option Nat} {S : Nat → Prop} (h : a.grownBy b r) (k : Chg S b c) (hs : ∀ i, S i → some i = r ∨ a.heap.size ≤ i) : a.grownBy c r :=
  ⟨k.os.trans h.os, k.tape.trans h.tape, k.output.trans h.output, Nat.le_trans h.size k.size, fun i hi hr => (k.block i (Nat.lt_of_lt_of_le hi h.size) fun hS => by
    rcases hs i hS with e | e
    · exact hr e
    · omega).trans (h.block i hi hr)⟩
end Go.Proofs.Ythdfkiaoahpjpaa
/-
  A drawn arithmetic circuit: the struct that is made, and the regions that append to it.
-/
namespace Go.Proofs.Ythdfkiaoahpjpaa
open Go.RowKit
set_option linter.unusedVariables false
set_option linter.unusedSimpArgs false
section
variable {lo g : Nat} {m : AM} {u1 u2 : Value} {F1 F2 : List Nat} {w w' : World}
end
end Go.Proofs.Ythdfkiaoahpjpaa
/-
  A drawn arithmetic circuit: it is well-formed; its inputs fit.
-/
namespace Go.Proofs.Ythdfkiaoahpjpaa
open Go.RowKit
set_option linter.unusedVariables false
set_option linter.unusedSimpArgs false
end Go.Proofs.Ythdfkiaoahpjpaa
/-
  copyKeys, copyArith of the program.
-/
namespace Go.Proofs.Ythdfkiaoahpjpaa
open Go.RowKit
set_option linter.unusedVariables false
set_option linter.unusedSimpArgs false
end Go.Proofs.Ythdfkiaoahpjpaa
/-
  The program's builder: its circuit's copy, what it asks of words, sums.
-/
namespace Go.Proofs.Ythdfkiaoahpjpaa
open Go.RowKit
set_option linter.unusedVariables false
set_option linter.unusedSimpArgs false
theorem GBT.back {T : TypeId} {lo : Nat} {a b : World} (h : Chg (GBT T lo a) a b) (hlo : lo ≤ a.heap.size) {y : Nat} (k : GBT T lo b y) : GBT T lo a y := by
  refine ⟨k.1, fun cur e z hc => ?_⟩
  by_cases h2 : GBT T lo a y
  · exact h2.2 cur e z hc
  · refine k.2 cur e z ?_
    rw [h.block y (by rcases Nat.lt_or_ge y a.heap.size with h1 | h1; exact h1; rw [Array.getElem?_eq_none h1] at hc; cases hc) h2]
    exact hc
theorem GBT.new {T : TypeId} {lo : Nat} {a : World} (hlo : lo ≤ a.heap.size) {y : Nat} (h : a.heap.size ≤ y) : GBT T lo a y :=
  ⟨by omega, fun cur e z hc => by rw [Array.getElem?_eq_none h] at hc; cases hc⟩
theorem GBT.on {T : TypeId} {lo : Nat} {a b c : World} (h : Chg (GBT T lo a) a b) (hlo : lo ≤ a.heap.size) (k : Chg (GBT T lo b) b c) : Chg (GBT T lo a) b c := k.mono fun y hy => GBT.back h hlo hy
theorem Ints.val {w : World} {b o n : Nat} {xs : List Int} (h : Ints w (some ⟨b, o, none⟩) n xs) {j : Nat} (hj : j < n) : w.cell? ⟨b, o + j, none⟩ = some (.int .i64 (xs.getD j 0)) := by
  obtain ⟨b', o', e, _, hc⟩ := h.at_ (by omega)
  injection e with e
  injection e with e1 e2 _
  subst e1; subst e2
  exact hc j hj
def PSH (l2 : Nat) (w : World) (y : Nat) : Prop := l2 ≤ y ∧ ∃ cur, Blk w y 3 cur
theorem BS.push {T : TypeId} {lo hi g l2 : Nat} {m : CM} {w w' : World} (h : BS T lo hi m g w) (k : Chg (PSH l2 w) w w') (hl : hi ≤ l2) : BS T lo hi m g w' := h.chg k fun y hy => ⟨by have := hy.1; omega, _, _, hy.2.choose_spec, by decide⟩
theorem Bld.push {T : TypeId} {lo hi g l2 : Nat} {m : CM} {a b c : World} (h : Bld T lo hi m g a b) (k : Chg (PSH l2 b) b c) (hl : hi ≤ l2) (ha : a.heap.size ≤ l2) : Bld T lo hi m g a c := ⟨h.1.push k hl, h.2.join k fun y hy => .inr (by have := hy.1; omega)⟩
theorem PSH.gbt' {T : TypeId} {lo l2 : Nat} {a b c q : World} (k : Chg (PSH l2 q) b c) (hlo : lo ≤ a.heap.size) (ha : a.heap.size ≤ l2) : Chg (GBT T lo a) b c := k.mono fun y hy => GBT.new hlo (by have := hy.1; omega)
section
variable {ops : Array Oper} {rest : List Oper} {o : Oper} {a : Act} {Q : Exit → Act → World → Prop}
theorem wp_pushI2 (wr : World) (g : Nat) (hgs : wr.heap.size = g) (hgd : o.guard = none) (s x : Operand)
    (ho : o.op = .call { callee := .builtin .append, args := #[s, x], argTypes := #[24, 24] }) (z : Int) (lo : Nat) (A : Option Addr) (n c : Nat) (xs : List Int) (hown : ownF lo (cints xs) (.slice A n c) wr) (hl : xs.length = n)
    (hs : a.eval s = .slice A n c) (hx : a.eval x = .slice (some ⟨g, 0, none⟩) 1 1) (hn : n ≤ 1000000) (hlo : lo ≤ wr.heap.size)
    (h : ∀ A' c' w', Hid (ownF lo (cints (xs ++ [z])) (.slice A' (n + 1) c') w') → Hid (Chg (PSH lo wr) wr w') → Hid (Chg (PSH lo wr) (wr.alloc (.cells #[.int .i64 z] 3)) w') → wpList Try.prog ops Q rest (a.put o.dst (.slice A' (n + 1) c')) w') :
    wpList Try.prog ops Q (o :: rest) a (wr.alloc (.cells #[.int .i64 z] 3)) := by
  obtain ⟨F, hF, hFl⟩ := hown
  obtain ⟨A2, c2, e2, hF2, hrow⟩ := cints_row hF
  have hr := hrow lo hFl
  rw [hl] at hr
  refine wp_appendG wr g hgs el_int hgd s x ho #[.int .i64 z] rfl (by simp [Value.oneCell']) lo _ n (xs.map (Value.int .i64)) hr hs hx (by unfold maxLen; omega) (by omega) hlo fun v' w9 o9 g9 k9 => ?_
  obtain ⟨A6, c6, rfl, _⟩ := own_form o9
  have key : ∀ y, (Value.slice A n c).ownBlock = some y → PSH lo wr y := fun y hy => by
    obtain ⟨cur, hB9, hb9⟩ := own_blk9 hr hy
    exact ⟨hb9, cur, hB9⟩
  exact h A6 c6 w9 (Lib.hid (ownF.ints (by rw [List.map_append]; simpa using o9))) (Lib.hid ((Chg.of (gbT (gbA (gbR wr _) _) g9) (fun y hy => hy) : Chg (fun y => (Value.slice A n c).ownBlock = some y) wr w9).mono key)) (Lib.hid ((Chg.of g9 (fun y hy => hy) : Chg (fun y => (Value.slice A n c).ownBlock = some y) _ w9).mono key))
theorem wp_pushI (wr : World) (g : Nat) (hgs : wr.heap.size = g) (hgd : o.guard = none) (s x : Operand)
    (ho : o.op = .call { callee := .builtin .append, args := #[s, x], argTypes := #[24, 24] }) (z : Int) (lo : Nat) (A : Option Addr) (n c : Nat) (xs : List Int) (hown : ownF lo (cints xs) (.slice A n c) wr) (hl : xs.length = n)
    (hs : a.eval s = .slice A n c) (hx : a.eval x = .slice (some ⟨g, 0, none⟩) 1 1) (hn : n ≤ 1000000) (hlo : lo ≤ wr.heap.size)
    (h : ∀ A' c' w', Hid (ownF lo (cints (xs ++ [z])) (.slice A' (n + 1) c') w') → Hid (Chg (PSH lo wr) wr w') → wpList Try.prog ops Q rest (a.put o.dst (.slice A' (n + 1) c')) w') :
    wpList Try.prog ops Q (o :: rest) a (wr.alloc (.cells #[.int .i64 z] 3)) := wp_pushI2 wr g hgs hgd s x ho z lo A n c xs hown hl hs hx hn hlo fun A' c' w' h1 h2 _ => h A' c' w' h1 h2
end
end Go.Proofs.Ythdfkiaoahpjpaa
