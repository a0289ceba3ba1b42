/-
  TripleUse of the program.
-/
import Derived.Test.YthaadgdeadbhkaaMgFnExactEngineOutputs26
import Derived.Test.YthaadgdeadbhkaaMgFnExactEngineOutputs10
import Derived.Test.YthaadgdeadbhkaaMgFnExactEngineOutputs15
import Derived.Test.YthaadgdeadbhkaaMgFnExactEngineOutputs6
namespace Go.Proofs.Ythaadgdeadbhkaa
open Go.RowKit
set_option linter.unusedVariables false
set_option linter.unusedSimpArgs false
end Go.Proofs.Ythaadgdeadbhkaa
/-
  valueIn and TripleOpen of the program.
-/
namespace Go.Proofs.Ythaadgdeadbhkaa
open Go.RowKit
set_option linter.unusedVariables false
set_option linter.unusedSimpArgs false
set_option maxHeartbeats 1000000 in
theorem implvalueIn_y (k : KM) (a : AuM) (kv av : Value) (w0 : World) (h : AggR w0 (ckeys k) kv) (ha : AggR w0 (cauth a) av) (he : elemsB k.p a.sh = true) (wa : awf a) :
    Calls Try.prog 75 #[kv, av] w0 fun e w' => e = .returned (.int .i64 (fsum k.p a.sh)) ∧ w0.grownBy w' none := by
  obtain ⟨A, c, rfl, hc, hm, hI⟩ := ckeys_sl h
  obtain ⟨Ba, da, Ca, fa, rfl, _, _, _, _, hSa, hMa⟩ := cauth_sl ha
  obtain ⟨w1, hw1⟩ : ∃ x : World, ((w0.alloc (.cells #[.int .i64 k.p, .slice A k.al.length c] 26)).alloc (.cells #[.slice Ba a.sh.length da, .slice Ca a.mc.length fa] 44)) = x := ⟨_, rfl⟩
  have G1 : Hid (w0.grownBy w1 none) := by rw [← hw1]; exact gbA (gbA (gbR _ _) _) _
  have D0 : Hid (Blk w1 w0.heap.size 26 #[.int .i64 k.p, .slice A k.al.length c]) := by rw [← hw1]; exact (Blk.new w0 _ _).grow (gbA (gbR _ _) _)
  have D1 : Hid (Blk w1 (w0.heap.size + 1) 44 #[.slice Ba a.sh.length da, .slice Ca a.mc.length fa]) := by rw [← hw1]; exact Blk.new' _ _ _ _ (by simp)
  have IS := Lib.hid (hSa.grow G1.out)
  have WA := Lib.hid wa
  have HE := Lib.hid he
  clear h ha hI hSa hMa wa he
  go_enter Try.func75, Try.ntmps75
  have k0 := D0.out.cell 0
  have k1 := D0.out.cell 1
  have a0 := D1.out.cell 0
  have a1 := D1.out.cell 1
  simp at k0 k1 a0 a1
  go_wp2_with fail
  clear hw1
  refine (implFSum_y k.p Ba _ da a.sh _ HE.out IS.out (by have := WA.out.1; omega)).mono ?_
  rintro e w2 ⟨rfl, rfl⟩
  go_wp2_with fail
  exact bodyPost_ret (v := .int .i64 (fsum k.p a.sh)) (by simp [results, Try.results75]) rfl ⟨rfl, G1.out⟩
def openB (k : KM) (x y : AuM) (t : TrM) : Bool := formB k x && formB k y && formB k t.a && formB k t.b
def openD (k : KM) (x y : AuM) (t : TrM) : Int := if openB k x y t then (fsum k.p x.sh - fsum k.p t.a.sh) % k.p else 0
def openE (k : KM) (x y : AuM) (t : TrM) : Int := if openB k x y t then (fsum k.p y.sh - fsum k.p t.b.sh) % k.p else 0
end Go.Proofs.Ythaadgdeadbhkaa
/-
  TripleNew of the program, where it answers.
-/
namespace Go.Proofs.Ythaadgdeadbhkaa
open Go.RowKit
set_option linter.unusedVariables false
set_option linter.unusedSimpArgs false
def tnA (s a P : Nat) : Nat := belN s a P
def tnB (s a P : Nat) : Nat := belN s (a + 1) P
def tripleNew (k : KM) (P s a : Nat) : TrM :=
  ⟨authNew k P s (a + 2) (tnA s a P), authNew k P s (a + 2 + 2 * (k.al.length - 1)) (tnB s a P), authNew k P s (a + 2 + 4 * (k.al.length - 1)) (((tnA s a P : Int) * (tnB s a P : Int)) % k.p)⟩
def OwnE (w : World) (cs : List CS) (vs : List Value) : Prop := vs.length = cs.length ∧ ∀ (i : Nat) (c : CS) (v : Value), cs[i]? = some c → vs[i]? = some v → ∃ F, c.own w F v
def AggE (w : World) (cs : List CS) (v : Value) : Prop := ∃ vs : List Value, v = .agg vs.toArray ∧ OwnE w cs vs
theorem OwnE.rd {w : World} {cs : List CS} {vs : List Value} (h : OwnE w cs vs) : RdAll w cs vs := ⟨h.1, fun i c v hc hv => by
  obtain ⟨F, hF⟩ := h.2 i c v hc hv
  exact c.toRd hF⟩
theorem AggE.rd {w : World} {cs : List CS} {v : Value} (h : AggE w cs v) : AggR w cs v := by
  obtain ⟨vs, rfl, h⟩ := h
  exact ⟨vs, rfl, h.rd⟩
theorem OwnE.append {w : World} {cs ds : List CS} {vs us : List Value} (h : OwnE w cs vs) (k : OwnE w ds us) : OwnE w (cs ++ ds) (vs ++ us) := by
  refine ⟨by simp [h.1, k.1], fun i c v hc hv => ?_⟩
  rw [List.getElem?_append] at hc hv
  rw [h.1] at hv
  split at hc
  · rename_i hl
    rw [if_pos hl] at hv
    exact h.2 i c v hc hv
  · rename_i hl
    rw [if_neg hl] at hv
    exact k.2 _ c v hc hv
end Go.Proofs.Ythaadgdeadbhkaa
/-
  isZeroAuth of the program.
-/
namespace Go.Proofs.Ythaadgdeadbhkaa
open Go.RowKit
set_option linter.unusedVariables false
set_option linter.unusedSimpArgs false
def zeroA (a : AuM) : Bool := decide (a.sh.length = 0) && decide (a.mc.length = 0)
set_option maxHeartbeats 1000000 in
theorem implisZeroAuth_c (a : AuM) (av : Value) (w0 : World) (ha : AggR w0 (cauth a) av) :
    Calls Try.prog 76 #[av] w0 fun e w' => e = .returned (.bool (zeroA a)) ∧ w0.grownBy w' none := by
  obtain ⟨Ba, da, Ca, fa, rfl, _, _, _, _, hSa, hMa⟩ := cauth_sl ha
  obtain ⟨w1, hw1⟩ : ∃ x : World, w0.alloc (.cells #[.slice Ba a.sh.length da, .slice Ca a.mc.length fa] 44) = x := ⟨_, rfl⟩
  have G1 : Hid (w0.grownBy w1 none) := by rw [← hw1]; exact gbA (gbR _ _) _
  have D1 : Hid (Blk w1 w0.heap.size 44 #[.slice Ba a.sh.length da, .slice Ca a.mc.length fa]) := by rw [← hw1]; exact Blk.new w0 _ _
  have HZ : Hid (zeroA a = (decide (a.sh.length = 0) && decide (a.mc.length = 0))) := rfl
  clear ha hSa hMa
  cases hs : decide (a.sh.length = 0)
  · rw [hs, Bool.false_and] at HZ
    have hs' : ¬ a.sh.length = 0 := by simpa using hs
    have d1 : (((a.sh.length : Int) == 0)) = false := by simpa using hs'
    clear hs
    go_enter Try.func76, Try.ntmps76
    have a0 := D1.out.cell 0
    have a1 := D1.out.cell 1
    simp at a0 a1
    go_wp2_with fail
    exact bodyPost_ret (v := .bool false) (by simp [results, Try.results76]) rfl ⟨retB HZ.out.symm, G1.out⟩
  · have hs' : a.sh.length = 0 := by simpa using hs
    rw [hs, Bool.true_and] at HZ
    clear hs
    have d1 : (((a.sh.length : Int) == 0)) = true := by simpa using hs'
    have hs' := Lib.hid hs'
    go_enter Try.func76, Try.ntmps76
    have a0 := D1.out.cell 0
    have a1 := D1.out.cell 1
    simp at a0 a1
    go_wp2_with fail
    have hz : ((a.mc.length : Int) == 0) = zeroA a := by
      rw [HZ.out]
      by_cases h : a.mc.length = 0 <;> simp [h]
    exact bodyPost_ret (v := .bool ((a.mc.length : Int) == 0)) (by simp [results, Try.results76]) rfl ⟨retB hz, gbA (gbR _ _) _⟩
end Go.Proofs.Ythaadgdeadbhkaa
/-
  copyAuth of the program.
-/
namespace Go.Proofs.Ythaadgdeadbhkaa
open Go.RowKit
set_option linter.unusedVariables false
set_option linter.unusedSimpArgs false
end Go.Proofs.Ythaadgdeadbhkaa
/-
  append onto a new empty row ('append([]T{}, x...)'): nothing old changes.
-/
namespace Go.Proofs.Ythaadgdeadbhkaa
open Go.RowKit
set_option linter.unusedVariables false
set_option linter.unusedSimpArgs false
section
variable {P : Program}
variable {ops : Array Oper} {rest : List Oper} {o : Oper} {a : Act} {Q : Exit → Act → World → Prop}
end
end Go.Proofs.Ythaadgdeadbhkaa
/-
  More draws: once in n, a list of numbers below p, a word.
-/
namespace Go.Proofs.Ythaadgdeadbhkaa
open Go.RowKit
set_option linter.unusedVariables false
set_option linter.unusedSimpArgs false
theorem Chg.rdk {S : Nat → Prop} {w w' : World} {sz n : Nat} {A : Option Addr} {xs : List Value} (h : Rd w sz A n xs) (k : Chg S w w') (hs : 0 < n → ∀ a, A = some a → ¬ S a.block) : Rd w' sz A n xs := by
  rcases Nat.eq_zero_or_pos n with h0 | h0
  · exact ⟨h.1, fun hn => by omega⟩
  · exact Chg.rd h k (hs h0)
theorem Cur.kept {S : Nat → Prop} {w w' : World} {g : Nat} {A : Option Addr} {n c : Nat} {bs : List Int} (h : Cur w g A n c bs) (k : Chg S w w') (hg : w'.heap[g]? = w.heap[g]?) (hs : 0 < n → ∀ a, A = some a → ¬ S a.block) : Cur w' g A n c bs := by
  obtain ⟨⟨i, hh, hi, hb⟩, k2, k3, k4, k5⟩ := h
  exact ⟨⟨i, hh, hi, hg.trans hb⟩, Chg.rdk k2 k hs, k3, k4, k5⟩
theorem Cur.old {w : World} {g : Nat} {A : Option Addr} {n c : Nat} {bs : List Int} (h : Cur w g A n c bs) {y : Nat} (hy : w.heap.size ≤ y) : 0 < n → ∀ a, A = some a → a.block ≠ y := fun hn a ha e => by
  obtain ⟨b, o, rfl, hb, _⟩ := h.bytes.2 (by omega)
  injection ha with ha
  subst ha
  simp only at e
  omega
end Go.Proofs.Ythaadgdeadbhkaa
