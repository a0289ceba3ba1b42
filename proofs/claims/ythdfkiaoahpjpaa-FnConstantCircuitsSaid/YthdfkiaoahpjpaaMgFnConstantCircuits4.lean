/-
  The general law on a region that draws its order, once more: one store of it may write into a block r that was there before: what it waits for sees the old world.
-/
import Derived.Test.YthdfkiaoahpjpaaMgFnConstantCircuits3
import Derived.Laws.BitsAllLaws
import Derived.Laws.BitsLemmas
namespace Go.Proofs.Ythdfkiaoahpjpaa
open Go.RowKit
set_option linter.unusedVariables false
set_option linter.unusedSimpArgs false
def waits (ops : Array Oper) (s : Nat) : List Nat := match ops[s]? with | some o => (bindE o).map (·.on) | none => []
structure GInv2 (ops : Array Oper) (T : List Fact) (W : World) (a0 : Act) (r : Option Nat) (s : Nat) (listed : Array Bool) (a : Act) (w : World) : Prop where
  g : W.grownBy w r
  pre : listed.getD s false = false → W.grownBy w none
  sz : listed.size = ops.size
  tz : a.tmps.size = a0.tmps.size
  df : a.defers = a0.defers
  out : ∀ t, t ∉ dsts ops → a.tmps[t]? = a0.tmps[t]?
  facts : ∀ k o, ops[k]? = some o → listed.getD k false = true → (fAt T k).at_ (fun d => a.tmps.getD d undef) w
  closed : ∀ k o, ops[k]? = some o → listed.getD k false = true → ∀ e ∈ bindE o, listed.getD e.on false = true
section
variable {P : Program} {ops : Array Oper} {T : List Fact} {W : World} {a0 : Act} {r : Option Nat} {s : Nat} {Q : Exit → Act → World → Prop}
theorem GInv2.step {listed : Array Bool} {a : Act} {w : World} (K : RegOk ops T) (hsz : ∀ d ∈ dsts ops, d < a0.tmps.size) (hst : stablesF T) (h : GInv2 ops T W a0 r s listed a w) {i : Nat} {o : Oper} (hi : ops[i]? = some o)
    (hun : listed.getD i false = false) (hwait : ∀ e ∈ bindE o, listed.getD e.on false = true) {v : Value} {w' : World} (hv : (fAt T i).at_ (upd (fun d => a.tmps.getD d undef) o.dst v) w')
    (hg : w.grownBy w' none ∨ (o.dst = none ∧ W.grownBy w' r ∧ (i ≠ s → W.grownBy w none → W.grownBy w' none) ∧ keeps (fun d => a.tmps.getD d undef) w w' i T 0)) : GInv2 ops T W a0 r s (listed.setIfInBounds i true) (a.put o.dst v) w' := by
  have hdlt : ∀ d, o.dst = some d → d < a.tmps.size := fun d hd => by rw [h.tz]; exact hsz d (dst_mem hi hd)
  have hil : i < listed.size := by rw [h.sz]; exact (Array.getElem?_eq_some_iff.1 hi).1
  have lset : ∀ k, k ≠ i → (listed.setIfInBounds i true).getD k false = listed.getD k false := fun k hk => by
    simp only [Array.getD_eq_getD_getElem?, Array.getElem?_setIfInBounds, Ne.symm hk, if_false]
  have lold : ∀ k, listed.getD k false = true → (listed.setIfInBounds i true).getD k false = true := fun k hk => by
    by_cases e : k = i
    · subst e; simp [hil]
    · rw [lset k e]; exact hk
  refine ⟨?_, fun hs => ?_, by simp [h.sz], ?_, ?_, fun t ht => ?_, fun k ok hk hl => ?_, fun k ok hk hl e he => ?_⟩
  · rcases hg with hg | ⟨_, hg, _⟩
    · exact gbT h.g (gbW hg)
    · exact hg
  · have hsi : i ≠ s := fun e => by subst e; simp [hil] at hs
    rw [lset s (Ne.symm hsi)] at hs
    rcases hg with hg | ⟨_, _, hg, _⟩
    · exact gbT (h.pre hs) hg
    · exact hg hsi (h.pre hs)
  · rw [← h.tz]; cases o.dst <;> simp [Act.put]
  · rw [← h.df]; cases o.dst <;> rfl
  · rw [← h.out t ht]
    cases hd : o.dst with
    | none => rfl
    | some d =>
      have : d ≠ t := fun e => ht (e ▸ dst_mem hi hd)
      simp [Act.put, this]
  · have hf : (fun d => (a.put o.dst v).tmps.getD d undef) = upd (fun d => a.tmps.getD d undef) o.dst v := by
      funext t; exact put_get a o.dst v t hdlt
    rw [hf]
    by_cases hik : k = i
    · subst hik
      exact hv
    · rw [lset k hik] at hl
      have hold := h.facts k ok hk hl
      have hne : ∀ t ∈ (fAt T k).ts, o.dst ≠ some t := fun t ht hd => by
        rcases K.sup k ok hk t ht with h1 | ⟨e, he, o', ho', hd'⟩
        · exact nodup_ne K.nodup (l := ops.toList) (i := k) (j := i) (by simpa using hk) (by simpa using hi) hik h1 hd
        · have h2 := h.closed k ok hk hl e he
          have h3 : e.on ≠ i := fun x => by rw [x, hun] at h2; cases h2
          exact nodup_ne K.nodup (l := ops.toList) (i := e.on) (j := i) (by simpa using ho') (by simpa using hi) h3 hd' hd
      have hmap : (fAt T k).ts.map (upd (fun d => a.tmps.getD d undef) o.dst v) = (fAt T k).ts.map (fun d => a.tmps.getD d undef) := List.map_congr_left fun t ht => upd_get _ _ _ _ (hne t ht)
      unfold Fact.at_
      rw [hmap]
      rcases hg with hg | ⟨hd, _, _, hk2⟩
      · exact stableF_at hst k _ _ _ hold hg
      · cases hT : T[k]? with
        | none => unfold fAt; rw [hT]; trivial
        | some F =>
          have e : fAt T k = F := by unfold fAt; rw [hT]; rfl
          rw [e] at hold ⊢
          exact keeps_at hk2 hT (by omega) hold
  · by_cases hik : k = i
    · subst hik
      obtain rfl : ok = o := by rw [hi] at hk; injection hk with hk; exact hk.symm
      exact lold _ (hwait e he)
    · rw [lset k hik] at hl
      exact lold _ (h.closed k ok hk hl e he)
theorem GInv2.is {listed : Array Bool} {a : Act} {w : World} (h : GInv2 ops T W a0 r s listed a w) : a = puts a0 (dsts ops) (fun d => a.tmps.getD d undef) := puts_is h.tz h.df h.out
end
end Go.Proofs.Ythdfkiaoahpjpaa
/-
  Contracts of the laws' small helpers on slices of numbers: eqIntS, heldIntS, markIntS, toIntS.
-/
namespace Go.Proofs.Ythdfkiaoahpjpaa
open Go.RowKit
theorem el_int : El Try.prog 24 3 (.int .i64 0) 1 8 := ⟨Try.underlying24, by kernel_rfl, rfl, by decide⟩
def IntsK (k : IntKind) (w : World) (A : Option Addr) (n : Nat) (zs : List Int) : Prop := Rd w 1 A n (zs.map (Value.int k)) ∧ (∀ z ∈ zs, (Lit.int k z).wf = true)
theorem IntsK.ints {w : World} {A : Option Addr} {n : Nat} {zs : List Int} (h : IntsK .i64 w A n zs) : Ints w A n zs := h.1
end Go.Proofs.Ythdfkiaoahpjpaa
/-
  Plain facts on numbers: primes up to 101, powers of two. No program.
-/
namespace Go.Proofs.Ythdfkiaoahpjpaa
def fieldB (p : Int) : Bool := [2, 3, 5, 7, 11, 13, 17, 19, 23, 29, 31, 37, 41, 43, 47, 53, 59, 61, 67, 71, 73, 79, 83, 89, 97, 101].contains p
end Go.Proofs.Ythdfkiaoahpjpaa
/-
  CountCaught: the reference counts, the program subtracts: the same number. FnExactCountCaught and FnSubsets' callee.
-/
namespace Go.Proofs.Ythdfkiaoahpjpaa
open Go.RowKit
set_option linter.unusedVariables false
set_option linter.unusedSimpArgs false
theorem wrap_small {x : Int} (h0 : -1099511627776 ≤ x) (h1 : x ≤ 1099511627776) : wrap64 x = x := IntWalk.wrap64_in x ⟨by omega, by omega⟩
end Go.Proofs.Ythdfkiaoahpjpaa
/-
  AllZero, and the laws FnExactCountCaught and FnExactAllZero.
-/
namespace Go.Proofs.Ythdfkiaoahpjpaa
open Go.RowKit
set_option linter.unusedVariables false
set_option linter.unusedSimpArgs false
theorem Ints.cell {w : World} {A : Option Addr} {n : Nat} {zs : List Int} (h : Ints w A n zs) {k : Nat} (hk : k < n) :
    ∃ b o, A = some ⟨b, o, none⟩ ∧ b < w.heap.size ∧ w.cell? ⟨b, o + k, none⟩ = some (.int .i64 (zs.getD k 0)) := by
  obtain ⟨b, o, e, hb, hc⟩ := h.at_ (by omega)
  exact ⟨b, o, e, hb, hc k hk⟩
end Go.Proofs.Ythdfkiaoahpjpaa
/-
  Slices of structs of numbers: their cells lie one struct behind the other.
-/
namespace Go.Proofs.Ythdfkiaoahpjpaa
open Go.RowKit
set_option linter.unusedVariables false
set_option linter.unusedSimpArgs false
section
variable {α β : Type} {F : α → List β} {sz : Nat}
theorem flat_len (hF : ∀ x, (F x).length = sz) (xs : List α) : (xs.flatMap F).length = xs.length * sz := by
  induction xs with
  | nil => simp
  | cons x xs ih => rw [List.flatMap_cons, List.length_append, hF, ih, List.length_cons, Nat.succ_mul]; omega
theorem flat_get (hF : ∀ x, (F x).length = sz) : ∀ (xs : List α) (i j : Nat), j < sz → (xs.flatMap F)[i * sz + j]? = xs[i]?.bind fun x => (F x)[j]?
  | [], i, j, _ => by simp
  | x :: xs, 0, j, hj => by
    rw [List.flatMap_cons, List.getElem?_append_left (by rw [hF]; omega)]; simp
  | x :: xs, i + 1, j, hj => by
    rw [List.flatMap_cons, List.getElem?_append_right (by rw [hF, Nat.succ_mul]; omega), hF, show (i + 1) * sz + j - sz = i * sz + j by rw [Nat.succ_mul]; omega, flat_get hF xs i j hj]
    simp
theorem mul_add_lt {i n j sz : Nat} (hi : i < n) (hj : j < sz) : i * sz + j < n * sz := by
  have : (i + 1) * sz ≤ n * sz := Nat.mul_le_mul_right sz hi
  rw [Nat.succ_mul] at this; omega
end
structure FL {α : Type} (F : α → List Value) (sz : Nat) (w : World) (A : Option Addr) (n : Nat) (xs : List α) : Prop where
  len : xs.length = n
  rd : Rd w sz A n (xs.flatMap F)
section
variable {α : Type} {F : α → List Value} {sz : Nat} {w w' : World} {A : Option Addr} {n : Nat} {xs : List α}
theorem FL.grown {r : Option Nat} (h : FL F sz w A n xs) (hg : w.grownBy w' r) (hr : Off A r) : FL F sz w' A n xs := ⟨h.len, h.rd.grown hg hr⟩
theorem FL.grow (h : FL F sz w A n xs) (hg : w.grownBy w' none) : FL F sz w' A n xs := ⟨h.len, h.rd.grow hg⟩
theorem FL.cell (hF : ∀ x, (F x).length = sz) (h : FL F sz w A n xs) {k : Nat} (hk : k < n) (hs : 0 < sz) :
    ∃ (b o : Nat) (x : α), A = some ⟨b, o, none⟩ ∧ b < w.heap.size ∧ xs[k]? = some x ∧ ∀ j, j < sz → w.cell? ⟨b, o + (k * sz + j), none⟩ = (F x)[j]? := by
  obtain ⟨b, o, rfl, hb, hc⟩ := h.rd.2 (by omega)
  have hl := h.len
  refine ⟨b, o, xs[k], rfl, hb, List.getElem?_eq_getElem (by omega), fun j hj => ?_⟩
  rw [hc _ (mul_add_lt hk hj), flat_get hF xs k j hj, List.getElem?_eq_getElem (by omega)]
  rfl
theorem FL.ofOwn {base c : Nat} {e : TypeId} (hl : xs.length = n) (h : w.ownsRow base e sz (.slice A n c) n (xs.flatMap F)) : FL F sz w A n xs := ⟨hl, Rd.ofOwn h⟩
theorem FL.nil (w : World) (A : Option Addr) : FL F sz w A 0 [] := ⟨rfl, by simp [Rd]⟩
end
def c2 (t : Int × Int) : List Value := [.int .i64 t.1, .int .i64 t.2]
def c3 (t : Int × Int × Int) : List Value := [.int .i64 t.1, .int .i64 t.2.1, .int .i64 t.2.2]
theorem c3_len (t : Int × Int × Int) : (c3 t).length = 3 := rfl
def i64w (n : Int) : Prop := -9223372036854775808 ≤ n ∧ n ≤ 9223372036854775807
def w2 (x : Int × Int) : Prop := i64w x.1 ∧ i64w x.2
def w3 (x : Int × Int × Int) : Prop := i64w x.1 ∧ i64w x.2.1 ∧ i64w x.2.2
end Go.Proofs.Ythdfkiaoahpjpaa
