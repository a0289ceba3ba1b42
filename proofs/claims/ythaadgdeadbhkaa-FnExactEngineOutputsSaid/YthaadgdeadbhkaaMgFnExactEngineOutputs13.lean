/-
  A cell of a row of rows: its row has been appended to (in place or anew), and the new slice stored.
-/
import Derived.Test.YthaadgdeadbhkaaMgFnExactEngineOutputs12
import Derived.Test.YthaadgdeadbhkaaMgFnExactEngineOutputs11
import Derived.Test.YthaadgdeadbhkaaMgFnExactEngineOutputs10
import Derived.Test.YthaadgdeadbhkaaMgFnExactEngineOutputs8
import Derived.Test.YthaadgdeadbhkaaMgFnExactEngineOutputs2
namespace Go.Proofs.Ythaadgdeadbhkaa
open Go.RowKit
set_option linter.unusedVariables false
set_option linter.unusedSimpArgs false
section
variable {e : TypeId} {s : Nat} {cs : List CS} {w w' : World} {F : List Nat}
end
end Go.Proofs.Ythaadgdeadbhkaa
/-
  append on a row whose cells own blocks: what stands behind it.
-/
namespace Go.Proofs.Ythaadgdeadbhkaa
open Go.RowKit
set_option linter.unusedVariables false
set_option linter.unusedSimpArgs false
theorem row_ob {e : TypeId} {s g : Nat} {cs : List CS} {w : World} {F : List Nat} {v : Value} (h : (row e s cs).own w F v) (hg : v.ownBlock = some g) : g ∈ F := by
  obtain ⟨n, vs, Fs, _, _, _, h4, _⟩ := h
  rw [h4, hg]; simp
section
variable {P : Program} {ops : Array Oper} {rest : List Oper} {o : Oper} {a : Act} {Q : Exit → Act → World → Prop}
end
theorem own_setC (c : CS) {w : World} {F : List Nat} {v : Value} (h : c.own w F v) (g i : Nat) (hp : g ∉ F) (u : Value) : c.own (w.setCell ⟨g, i, none⟩ u) F v := own_setK c h ⟨g, i, none⟩ hp u
theorem chgS (w : World) (g i : Nat) (u : Value) : Chg (fun x => x = g) w (w.setCell ⟨g, i, none⟩ u) :=
  ⟨rfl, rfl, rfl, by simp [World.setCell], fun x _ hx => Below.heap_setCell w ⟨g, i, none⟩ u x (fun e => hx e)⟩
theorem Blk.chg {w w' : World} {g : Nat} {t : TypeId} {cs : Array Value} {S : Nat → Prop} (h : Blk w g t cs) (k : Chg S w w') (hs : ¬ S g) : Blk w' g t cs := (k.block g h.lt hs).trans h
theorem Chg.cell {S : Nat → Prop} {w w' : World} (k : Chg S w w') {g i : Nat} {v : Value} (h : w.cell? ⟨g, i, none⟩ = some v) (hg : g < w.heap.size) (hs : ¬ S g) : w'.cell? ⟨g, i, none⟩ = some v := by
  rw [← h]
  unfold World.cell?
  rw [k.block g hg hs]
theorem Chg.frozen {S : Nat → Prop} {w w' : World} (k : Chg S w w') {g i : Nat} {b : Bool} (h : w.frozen? ⟨g, i, none⟩ = b) (hg : g < w.heap.size) (hs : ¬ S g) : w'.frozen? ⟨g, i, none⟩ = b := by
  rw [← h]
  unfold World.frozen?
  rw [k.block g hg hs]
theorem gbChg {a b c : World} {S : Nat → Prop} (h : a.grownBy b none) (k : Chg S b c) (hs : ∀ i, S i → a.heap.size ≤ i) : a.grownBy c none := Chg.new h k hs
end Go.Proofs.Ythaadgdeadbhkaa
/-
  A region that draws its order whose one writer is its last operation, the store of a struct into a block: cells stored one behind the other.
-/
namespace Go.Proofs.Ythaadgdeadbhkaa
open Go.RowKit
set_option linter.unusedVariables false
set_option linter.unusedSimpArgs false
def setCells (w : World) (g : Nat) : Nat → List Value → World
  | _, [] => w
  | i, u :: us => setCells (w.setCell ⟨g, i, none⟩ u) g (i + 1) us
theorem blk_setCells' {g : Nat} {T : TypeId} : ∀ (us pre post : List Value) (w : World), Blk w g T (pre ++ post).toArray → post.length = us.length → Blk (setCells w g pre.length us) g T (pre ++ us).toArray
  | [], pre, post, w, h, hl => by
    have : post = [] := List.eq_nil_of_length_eq_zero hl
    subst this
    exact h
  | u :: us, pre, post, w, h, hl => by
    cases post with
    | nil => simp at hl
    | cons p post =>
      have h1 := h.set_ pre.length u
      have e : (pre ++ p :: post).toArray.setIfInBounds pre.length u = ((pre ++ [u]) ++ post).toArray := by
        apply Array.toList_inj.1
        simp
      rw [e] at h1
      have h2 := blk_setCells' us (pre ++ [u]) post _ h1 (by simpa using hl)
      simpa [setCells] using h2
theorem blk_setCells {w : World} {g : Nat} {T : TypeId} {cs : Array Value} (h : Blk w g T cs) (us : List Value) (hl : cs.size = us.length) : Blk (setCells w g 0 us) g T us.toArray := by
  have := blk_setCells' (g := g) (T := T) us [] cs.toList w (by simpa using h) (by simpa using hl)
  simpa using this
theorem chg_setCells (g : Nat) : ∀ (us : List Value) (i : Nat) (w : World), Chg (fun y => y = g) w (setCells w g i us)
  | [], _, w => Chg.refl _ w
  | u :: us, i, w => (chgS w g i u).trans (chg_setCells g us (i + 1) _)
theorem chgF {w w' : World} (h : Chg (fun _ => False) w w') : w.grownBy w' none := ⟨h.os, h.tape, h.output, h.size, fun i hi _ => h.block i hi (by simp)⟩
theorem gb_chg {a w w' : World} {g : Nat} (h : a.grownBy w none) (k : Chg (fun y => y = g) w w') (hg : a.heap.size ≤ g) : a.grownBy w' none := gbChg h k (fun i hi => by have : i = g := hi; omega)
end Go.Proofs.Ythaadgdeadbhkaa
/-
  Words and tapes: what they compute.
-/
namespace Go.Proofs.Ythaadgdeadbhkaa
open Go.RowKit
set_option linter.unusedVariables false
set_option linter.unusedSimpArgs false
def mixS (x : Nat) : Nat := ((x ^^^ x / 65536) * 73244475) &&& 4294967295
def mixTo (x : Nat) : Nat → Nat
  | 0 => x
  | k + 1 => mixS (mixTo x k)
def mixN (x : Nat) : Nat := mixTo x 2 ^^^ mixTo x 2 / 65536
def keyN (k a b : Nat) : Nat := mixN (mixN (mixN k ^^^ a) ^^^ b)
end Go.Proofs.Ythaadgdeadbhkaa
/-
  TapeBelow, TapeFork: what they compute.
-/
namespace Go.Proofs.Ythaadgdeadbhkaa
open Go.RowKit
set_option linter.unusedVariables false
set_option linter.unusedSimpArgs false
def belN (s a n : Nat) : Nat := keyN s 7 a / 256 % n
theorem belN_lt {s a n : Nat} (h : 0 < n) : belN s a n < n := Nat.mod_lt _ h
end Go.Proofs.Ythaadgdeadbhkaa
/-
  TapeList: what it computes.
-/
namespace Go.Proofs.Ythaadgdeadbhkaa
open Go.RowKit
set_option linter.unusedVariables false
set_option linter.unusedSimpArgs false
def tapeL (s a n k : Nat) : List Int := (List.range k).map fun j => ((belN s (a + j) n : Nat) : Int)
theorem tapeL_len (s a n k : Nat) : (tapeL s a n k).length = k := by simp [tapeL]
theorem tapeL_rng {s a n k : Nat} (hn : 0 < n) : ∀ z ∈ tapeL s a n k, 0 ≤ z ∧ z < (n : Int) := fun z hz => by
  unfold tapeL at hz
  obtain ⟨j, _, rfl⟩ := List.mem_map.1 hz
  have := belN_lt (s := s) (a := a + j) hn
  omega
end Go.Proofs.Ythaadgdeadbhkaa
/-
  FieldOk and FieldBits: reference and program.
-/
namespace Go.Proofs.Ythaadgdeadbhkaa
open Go.RowKit
set_option linter.unusedVariables false
set_option linter.unusedSimpArgs false
set_option maxHeartbeats 400000 in
theorem implFieldOk_c (p : Int) (w : World) (hp : p ≤ 9223372036854775807) :
    Calls Try.prog 112 #[.int .i64 p] w fun e w' => e = .returned (.bool (fieldB p)) ∧ w = w' := by
  go_enter Try.func112, Try.ntmps112
  go_wp2_with fail
  go_loop [3] (fun i => ∃ k : Nat, 2 ≤ k ∧ k ≤ 102 ∧ i = .int .i64 k ∧ Hid (∀ d : Nat, 2 ≤ d → d < k → (d : Int) < p → p % (d : Int) ≠ 0)) (fun i => 102 - (intOf i).toNat)
  case atStart => exact ⟨2, by omega, by omega, rfl, fun d h1 h2 => by omega⟩
  case round =>
    obtain ⟨k, hk2, hk, rfl, hnd⟩ := hrel
    by_cases h1 : (k : Int) < p
    · by_cases h2 : k ≤ 101
      · have d2 : decide ((k : Int) ≤ 101) = true := by simp; omega
        by_cases h3 : p % (k : Int) = 0
        · have h3' : (p % (k : Int) == 0) = true := by simp [h3]
          have H3 := Lib.hid h3
          clear h3
          go_wp2_with fail
          go_ret
          exact ⟨retB (field_no hk2 h1 H3.out).symm, rfl⟩
        · have h3' : (p % (k : Int) == 0) = false := by simp [h3]
          have H3 := Lib.hid h3
          clear h3
          go_wp2_with fail
          go_round
          case rel => exact ⟨k + 1, by omega, by omega, by go_num, fun d hd2 hdk hdp => by
            by_cases e : d = k
            · subst e; exact H3.out
            · exact hnd.out d hd2 (by omega) hdp⟩
          case measure => simp [intOf]; omega
      · have d2 : decide ((k : Int) ≤ 101) = false := by simp; omega
        have hbig : 101 < p := by omega
        have d3 : decide (p ≤ 101) = false := by simp; omega
        go_wp2
        go_ret
        exact ⟨retB (field_small (.inr hbig)).symm, rfl⟩
    · by_cases h2 : 2 ≤ p ∧ p ≤ 101
      · obtain ⟨h2, h3⟩ := h2
        have d1 : decide ((k : Int) < p) = false := by simp; omega
        have d3 : decide (p ≤ 101) = true := by simp; omega
        have d4 : decide (2 ≤ p) = true := by simp; omega
        go_wp2
        go_ret
        exact ⟨retB (field_yes h2 h3 fun d hd2 hdp => hnd.out d hd2 (by omega) hdp).symm, rfl⟩
      · have hs : fieldB p = false := field_small (by omega)
        have HS := Lib.hid hs
        clear hs
        have d1 : decide ((k : Int) < p) = false := by simp; omega
        by_cases h3 : 2 ≤ p
        · have d3 : decide (p ≤ 101) = false := by simp; omega
          have d4 : decide (2 ≤ p) = true := by simp; omega
          clear h2
          go_wp2
          go_ret
          exact ⟨retB HS.out.symm, rfl⟩
        · have d4 : decide (2 ≤ p) = false := by simp; omega
          clear h2
          go_wp2
          go_ret
          exact ⟨retB HS.out.symm, rfl⟩
set_option maxHeartbeats 400000 in
theorem specFieldOk_c (p : Int) (w : World) (hp : p ≤ 9223372036854775807) :
    Calls Try.prog 125 #[.int .i64 p] w fun e w' => e = .returned (.bool (fieldB p)) ∧ w = w' := by
  by_cases h2 : p < 2
  · have hs := Lib.hid (field_small (.inl h2))
    have d4 : decide (2 ≤ p) = false := by simp; omega
    go_enter Try.func125, Try.ntmps125
    go_wp2
    go_ret
    exact ⟨retB hs.out.symm, rfl⟩
  · by_cases h3 : 101 < p
    · have hs := Lib.hid (field_small (.inr h3))
      have d4 : decide (2 ≤ p) = true := by simp; omega
      have d3 : decide (p ≤ 101) = false := by simp; omega
      clear h2
      go_enter Try.func125, Try.ntmps125
      go_wp2
      go_ret
      exact ⟨retB hs.out.symm, rfl⟩
    · have d4 : decide (2 ≤ p) = true := by simp; omega
      have d3 : decide (p ≤ 101) = true := by simp; omega
      have h2' : 2 ≤ p := by omega
      have h3' : p ≤ 101 := by omega
      clear h2 h3
      go_enter Try.func125, Try.ntmps125
      go_wp2
      go_loop [3] (fun i => ∃ k : Nat, 2 ≤ k ∧ k ≤ 11 ∧ i = .int .i64 k ∧ Hid (∀ d : Nat, 2 ≤ d → d < k → p % (d : Int) ≠ 0)) (fun i => 11 - (intOf i).toNat)
      case atStart => exact ⟨2, by omega, by omega, rfl, fun d h1 h2 => by omega⟩
      case round =>
        obtain ⟨k, hk2, hk, rfl, hnd⟩ := hrel
        obtain ⟨X, hX⟩ : ∃ X : Nat, X = k * k := ⟨_, rfl⟩
        have hXk : k + k ≤ X := by rw [hX]; have := Nat.mul_le_mul_right k hk2; omega
        have hX1 : X ≤ 121 := by rw [hX]; exact Nat.mul_le_mul hk hk
        have e1 : (k : Int) * (k : Int) = (X : Int) := by rw [hX]; simp
        have e2 : wrap64 ((k : Int) * (k : Int)) = (X : Int) := by rw [e1]; exact wrap_small (by omega) (by omega)
        have HX := Lib.hid hX
        have HE := Lib.hid e1
        clear hX
        by_cases h1 : (X : Int) ≤ p
        · by_cases h4 : p % (k : Int) = 0
          · have h4' : (p % (k : Int) == 0) = true := by simp [h4]
            have H4 := Lib.hid h4
            clear h4
            go_wp2
            go_ret
            exact ⟨retB (field_no hk2 (by omega) H4.out).symm, rfl⟩
          · have h4' : (p % (k : Int) == 0) = false := by simp [h4]
            have H4 := Lib.hid h4
            have hk10 : k ≤ 10 := by
              rcases Nat.lt_or_ge 10 k with h | h
              · have : k = 11 := by omega
                subst this
                have := HX.out
                omega
              · exact h
            clear h4
            go_wp2
            go_round
            case rel => exact ⟨k + 1, by omega, by omega, by go_num, fun d hd2 hdk => by
              by_cases e : d = k
              · subst e; exact H4.out
              · exact hnd.out d hd2 (by omega)⟩
            case measure => simp [intOf]; omega
        · have h1' : p < (X : Int) := by omega
          go_wp2
          go_ret
          exact ⟨retB (field_sq h2' h3' (by omega) (by rw [HE.out]; exact h1') hnd.out).symm, rfl⟩
end Go.Proofs.Ythaadgdeadbhkaa
