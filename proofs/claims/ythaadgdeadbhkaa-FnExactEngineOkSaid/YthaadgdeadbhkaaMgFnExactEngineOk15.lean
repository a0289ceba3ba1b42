/-
  A cell of a row of rows: its row has been appended to (in place or anew), and the new slice stored.
-/
import Derived.Test.YthaadgdeadbhkaaMgFnExactEngineOk14
import Derived.Test.YthaadgdeadbhkaaMgFnExactEngineOk13
import Derived.Test.YthaadgdeadbhkaaMgFnExactEngineOk12
import Derived.Test.YthaadgdeadbhkaaMgFnExactEngineOk10
import Derived.Test.YthaadgdeadbhkaaMgFnExactEngineOk2
namespace Go.Proofs.Ythaadgdeadbhkaa
open Go.RowKit
set_option linter.unusedVariables false
set_option linter.unusedSimpArgs false
section
variable {e : TypeId} {s : Nat} {cs : List CS} {w w' : World} {F : List Nat}
end
end Go.Proofs.Ythaadgdeadbhkaa
/-
  append on a row whose cells own blocks: what stands behind it.
-/
namespace Go.Proofs.Ythaadgdeadbhkaa
open Go.RowKit
set_option linter.unusedVariables false
set_option linter.unusedSimpArgs false
theorem row_ob {e : TypeId} {s g : Nat} {cs : List CS} {w : World} {F : List Nat} {v : Value} (h : (row e s cs).own w F v) (hg : v.ownBlock = some g) : g ∈ F := by
  obtain ⟨n, vs, Fs, _, _, _, h4, _⟩ := h
  rw [h4, hg]; simp
section
variable {P : Program} {ops : Array Oper} {rest : List Oper} {o : Oper} {a : Act} {Q : Exit → Act → World → Prop}
end
theorem own_setC (c : CS) {w : World} {F : List Nat} {v : Value} (h : c.own w F v) (g i : Nat) (hp : g ∉ F) (u : Value) : c.own (w.setCell ⟨g, i, none⟩ u) F v := own_setK c h ⟨g, i, none⟩ hp u
theorem chgS (w : World) (g i : Nat) (u : Value) : Chg (fun x => x = g) w (w.setCell ⟨g, i, none⟩ u) :=
  ⟨rfl, rfl, rfl, by simp [World.setCell], fun x _ hx => Below.heap_setCell w ⟨g, i, none⟩ u x (fun e => hx e)⟩
theorem Blk.chg {w w' : World} {g : Nat} {t : TypeId} {cs : Array Value} {S : Nat → Prop} (h : Blk w g t cs) (k : Chg S w w') (hs : ¬ S g) : Blk w' g t cs := (k.block g h.lt hs).trans h
theorem Chg.cell {S : Nat → Prop} {w w' : World} (k : Chg S w w') {g i : Nat} {v : Value} (h : w.cell? ⟨g, i, none⟩ = some v) (hg : g < w.heap.size) (hs : ¬ S g) : w'.cell? ⟨g, i, none⟩ = some v := by
  rw [← h]
  unfold World.cell?
  rw [k.block g hg hs]
theorem Chg.frozen {S : Nat → Prop} {w w' : World} (k : Chg S w w') {g i : Nat} {b : Bool} (h : w.frozen? ⟨g, i, none⟩ = b) (hg : g < w.heap.size) (hs : ¬ S g) : w'.frozen? ⟨g, i, none⟩ = b := by
  rw [← h]
  unfold World.frozen?
  rw [k.block g hg hs]
theorem gbChg {a b c : World} {S : Nat → Prop} (h : a.grownBy b none) (k : Chg S b c) (hs : ∀ i, S i → a.heap.size ≤ i) : a.grownBy c none := Chg.new h k hs
end Go.Proofs.Ythaadgdeadbhkaa
/-
  A region that draws its order whose one writer is its last operation, the store of a struct into a block: cells stored one behind the other.
-/
namespace Go.Proofs.Ythaadgdeadbhkaa
open Go.RowKit
set_option linter.unusedVariables false
set_option linter.unusedSimpArgs false
def setCells (w : World) (g : Nat) : Nat → List Value → World
  | _, [] => w
  | i, u :: us => setCells (w.setCell ⟨g, i, none⟩ u) g (i + 1) us
theorem blk_setCells' {g : Nat} {T : TypeId} : ∀ (us pre post : List Value) (w : World), Blk w g T (pre ++ post).toArray → post.length = us.length → Blk (setCells w g pre.length us) g T (pre ++ us).toArray
  | [], pre, post, w, h, hl => by
    have : post = [] := List.eq_nil_of_length_eq_zero hl
    subst this
    exact h
  | u :: us, pre, post, w, h, hl => by
    cases post with
    | nil => simp at hl
    | cons p post =>
      have h1 := h.set_ pre.length u
      have e : (pre ++ p :: post).toArray.setIfInBounds pre.length u = ((pre ++ [u]) ++ post).toArray := by
        apply Array.toList_inj.1
        simp
      rw [e] at h1
      have h2 := blk_setCells' us (pre ++ [u]) post _ h1 (by simpa using hl)
      simpa [setCells] using h2
theorem blk_setCells {w : World} {g : Nat} {T : TypeId} {cs : Array Value} (h : Blk w g T cs) (us : List Value) (hl : cs.size = us.length) : Blk (setCells w g 0 us) g T us.toArray := by
  have := blk_setCells' (g := g) (T := T) us [] cs.toList w (by simpa using h) (by simpa using hl)
  simpa using this
theorem chg_setCells (g : Nat) : ∀ (us : List Value) (i : Nat) (w : World), Chg (fun y => y = g) w (setCells w g i us)
  | [], _, w => Chg.refl _ w
  | u :: us, i, w => (chgS w g i u).trans (chg_setCells g us (i + 1) _)
end Go.Proofs.Ythaadgdeadbhkaa
/-
  Words and tapes: what they compute.
-/
namespace Go.Proofs.Ythaadgdeadbhkaa
open Go.RowKit
set_option linter.unusedVariables false
set_option linter.unusedSimpArgs false
def mixS (x : Nat) : Nat := ((x ^^^ x / 65536) * 73244475) &&& 4294967295
def mixTo (x : Nat) : Nat → Nat
  | 0 => x
  | k + 1 => mixS (mixTo x k)
def mixN (x : Nat) : Nat := mixTo x 2 ^^^ mixTo x 2 / 65536
def keyN (k a b : Nat) : Nat := mixN (mixN (mixN k ^^^ a) ^^^ b)
end Go.Proofs.Ythaadgdeadbhkaa
/-
  TapeBelow, TapeFork: what they compute.
-/
namespace Go.Proofs.Ythaadgdeadbhkaa
open Go.RowKit
set_option linter.unusedVariables false
set_option linter.unusedSimpArgs false
def belN (s a n : Nat) : Nat := keyN s 7 a / 256 % n
theorem belN_lt {s a n : Nat} (h : 0 < n) : belN s a n < n := Nat.mod_lt _ h
end Go.Proofs.Ythaadgdeadbhkaa
/-
  TapeList: what it computes.
-/
namespace Go.Proofs.Ythaadgdeadbhkaa
open Go.RowKit
set_option linter.unusedVariables false
set_option linter.unusedSimpArgs false
def tapeL (s a n k : Nat) : List Int := (List.range k).map fun j => ((belN s (a + j) n : Nat) : Int)
theorem tapeL_len (s a n k : Nat) : (tapeL s a n k).length = k := by simp [tapeL]
theorem tapeL_rng {s a n k : Nat} (hn : 0 < n) : ∀ z ∈ tapeL s a n k, 0 ≤ z ∧ z < (n : Int) := fun z hz => by
  unfold tapeL at hz
  obtain ⟨j, _, rfl⟩ := List.mem_map.1 hz
  have := belN_lt (s := s) (a := a + j) hn
  omega
end Go.Proofs.Ythaadgdeadbhkaa
