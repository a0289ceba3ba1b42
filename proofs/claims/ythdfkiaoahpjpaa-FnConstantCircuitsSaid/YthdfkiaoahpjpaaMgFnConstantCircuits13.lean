/-
  append on a row whose cells own blocks: what stands behind it.
-/
import Derived.Test.YthdfkiaoahpjpaaMgFnConstantCircuits12
import Derived.Test.YthdfkiaoahpjpaaMgFnConstantCircuits7
import Derived.IntWalk
namespace Go.Proofs.Ythdfkiaoahpjpaa
open Go.RowKit
set_option linter.unusedVariables false
set_option linter.unusedSimpArgs false
theorem row_push {e : TypeId} {s : Nat} {cs : List CS} {w : World} {F : List Nat} {v : Value} (h : (row e s cs).own w F v) :
    ∃ n vs, cs.length = n * s ∧ w.ownsRow 0 e s v n vs ∧ (∀ g, v.ownBlock = some g → g ∈ F) ∧ ∀ (w' : World) (v' : Value) (m : Nat) (us : List Value) (ds : List CS) (Ds : List (List Nat)), ds.length = m * s → w'.ownsRow 0 e s v' (n + m) (vs ++ us) → w.grownBy w' v.ownBlock → (∀ g, v'.ownBlock = some g → some g = v.ownBlock ∨ w.heap.size ≤ g) → OwnAll w' ds us Ds → (∀ x ∈ Ds.flatten, x ∉ F) → (∀ g, v'.ownBlock = some g → g ∉ Ds.flatten) →
      ∃ F', (row e s (cs ++ ds)).own w' F' v' ∧ ∀ x ∈ F', x ∈ F ∨ w.heap.size ≤ x ∨ x ∈ Ds.flatten := by
  obtain ⟨n, vs, Fs, h1, h2, h3, h4, h5⟩ := h
  refine ⟨n, vs, h1, h2, fun g hg => by rw [h4, hg]; simp, fun w' v' m us ds Ds hl ho hg hv hd hF hv2 => ?_⟩
  have hvF : ∀ g, v.ownBlock = some g → g ∉ Fs.flatten := fun g e hx => by
    rw [h4, List.nodup_append] at h5
    exact h5.2.2 g (by rw [e]; simp) g hx rfl
  have h3' : OwnAll w' cs vs Fs := h3.kept fun g hg' => hg.block g (h3.lt g hg') (fun e => hvF g e.symm hg')
  have hap := h3'.append hd (fun g hg' hx => hF g hx (by rw [h4]; exact List.mem_append_right _ hg'))
  refine ⟨v'.ownBlock.toList ++ (Fs ++ Ds).flatten, ⟨n + m, _, _, by rw [List.length_append, h1, hl, Nat.add_mul], ho, hap, rfl, ?_⟩, fun x hx => ?_⟩
  · rw [List.nodup_append]
    refine ⟨by cases v'.ownBlock <;> simp, hap.nd, fun a ha b hb e => ?_⟩
    subst e
    have ha' : v'.ownBlock = some a := by simpa using ha
    rw [List.flatten_append] at hb
    rcases List.mem_append.1 hb with hb | hb
    · rcases hv a ha' with h6 | h6
      · exact hvF a h6.symm hb
      · have := h3.lt a hb; omega
    · exact hv2 a ha' hb
  · rcases List.mem_append.1 hx with hx | hx
    · have hx' : v'.ownBlock = some x := by simpa using hx
      rcases hv x hx' with h6 | h6
      · exact .inl (by rw [h4, ← h6]; simp)
      · exact .inr (.inl h6)
    · rw [List.flatten_append] at hx
      rcases List.mem_append.1 hx with hx | hx
      · exact .inl (by rw [h4]; exact List.mem_append_right _ hx)
      · exact .inr (.inr hx)
section
variable {P : Program} {ops : Array Oper} {rest : List Oper} {o : Oper} {a : Act} {Q : Exit → Act → World → Prop}
theorem wp_appendG (wr : World) (g : Nat) (hgs : wr.heap.size = g) {t e : TypeId} {z : Value} {size bytes : Nat} (E : El P t e z size bytes) (hgd : o.guard = none) (s x : Operand)
    (ho : o.op = .call { callee := .builtin .append, args := #[s, x], argTypes := #[t, t] }) (cs : Array Value) (hcs : cs.size = size) (h1 : ∀ u ∈ cs.toList, u.oneCell' = true)
    (base : Nat) (v : Value) (n : Nat) (xs : List Value) (hown : wr.ownsRow base e size v n xs) (hs : a.eval s = v) (hx : a.eval x = .slice (some ⟨g, 0, none⟩) 1 1)
    (hn : n + 1 ≤ maxLen) (hb : (n + 1) * bytes ≤ 140737488355328) (hbase : base ≤ wr.heap.size)
    (h : ∀ v' w', w'.ownsRow base e size v' (n + 1) (xs ++ cs.toList) → (wr.alloc (.cells cs e)).grownBy w' v.ownBlock → (∀ g, v'.ownBlock = some g → some g = v.ownBlock ∨ wr.heap.size < g) → wpList P ops Q rest (a.put o.dst v') w') :
    wpList P ops Q (o :: rest) a (wr.alloc (.cells cs e)) := by
  subst hgs
  refine wp_appendA (wr.alloc (.cells cs e)) E hgd s x ho base v n xs (hown.alloc _) hs ⟨wr.heap.size, 0, none⟩ 1 1 cs.toList hx (by simpa using hcs) ?_ h1 hn hb (by simp; omega) fun v' w' k1 k2 k3 => ?_
  · intro j u hu
    have hadd : (⟨wr.heap.size, 0, none⟩ : Addr).add j = ⟨wr.heap.size, j, none⟩ := by unfold Addr.add; split <;> simp_all
    rw [hadd, cell_of_row _ _ j cs e (0, 0) (heap_alloc_new wr _)]
    simpa using hu
  · exact h v' w' k1 k2 fun g hg => by
      rcases k3 g hg with h4 | h4
      · exact .inl h4
      · exact .inr (by simp at h4; omega)
end
theorem chgS (w : World) (g i : Nat) (u : Value) : Chg (fun x => x = g) w (w.setCell ⟨g, i, none⟩ u) :=
  ⟨rfl, rfl, rfl, by simp [World.setCell], fun x _ hx => Below.heap_setCell w ⟨g, i, none⟩ u x (fun e => hx e)⟩
theorem Blk.chg {w w' : World} {g : Nat} {t : TypeId} {cs : Array Value} {S : Nat → Prop} (h : Blk w g t cs) (k : Chg S w w') (hs : ¬ S g) : Blk w' g t cs := (k.block g h.lt hs).trans h
theorem Chg.cell {S : Nat → Prop} {w w' : World} (k : Chg S w w') {g i : Nat} {v : Value} (h : w.cell? ⟨g, i, none⟩ = some v) (hg : g < w.heap.size) (hs : ¬ S g) : w'.cell? ⟨g, i, none⟩ = some v := by
  rw [← h]
  unfold World.cell?
  rw [k.block g hg hs]
theorem Chg.frozen {S : Nat → Prop} {w w' : World} (k : Chg S w w') {g i : Nat} {b : Bool} (h : w.frozen? ⟨g, i, none⟩ = b) (hg : g < w.heap.size) (hs : ¬ S g) : w'.frozen? ⟨g, i, none⟩ = b := by
  rw [← h]
  unfold World.frozen?
  rw [k.block g hg hs]
theorem gbChg {a b c : World} {S : Nat → Prop} (h : a.grownBy b none) (k : Chg S b c) (hs : ∀ i, S i → a.heap.size ≤ i) : a.grownBy c none := Chg.new h k hs
end Go.Proofs.Ythdfkiaoahpjpaa
/-
  A region that draws its order whose one writer is its last operation, the store of a struct into a block: cells stored one behind the other.
-/
namespace Go.Proofs.Ythdfkiaoahpjpaa
open Go.RowKit
set_option linter.unusedVariables false
set_option linter.unusedSimpArgs false
def setCells (w : World) (g : Nat) : Nat → List Value → World
  | _, [] => w
  | i, u :: us => setCells (w.setCell ⟨g, i, none⟩ u) g (i + 1) us
theorem blk_setCells' {g : Nat} {T : TypeId} : ∀ (us pre post : List Value) (w : World), Blk w g T (pre ++ post).toArray → post.length = us.length → Blk (setCells w g pre.length us) g T (pre ++ us).toArray
  | [], pre, post, w, h, hl => by
    have : post = [] := List.eq_nil_of_length_eq_zero hl
    subst this
    exact h
  | u :: us, pre, post, w, h, hl => by
    cases post with
    | nil => simp at hl
    | cons p post =>
      have h1 := h.set_ pre.length u
      have e : (pre ++ p :: post).toArray.setIfInBounds pre.length u = ((pre ++ [u]) ++ post).toArray := by
        apply Array.toList_inj.1
        simp
      rw [e] at h1
      have h2 := blk_setCells' us (pre ++ [u]) post _ h1 (by simpa using hl)
      simpa [setCells] using h2
theorem blk_setCells {w : World} {g : Nat} {T : TypeId} {cs : Array Value} (h : Blk w g T cs) (us : List Value) (hl : cs.size = us.length) : Blk (setCells w g 0 us) g T us.toArray := by
  have := blk_setCells' (g := g) (T := T) us [] cs.toList w (by simpa using h) (by simpa using hl)
  simpa using this
theorem chg_setCells (g : Nat) : ∀ (us : List Value) (i : Nat) (w : World), Chg (fun y => y = g) w (setCells w g i us)
  | [], _, w => Chg.refl _ w
  | u :: us, i, w => (chgS w g i u).trans (chg_setCells g us (i + 1) _)
theorem chgF {w w' : World} (h : Chg (fun _ => False) w w') : w.grownBy w' none := ⟨h.os, h.tape, h.output, h.size, fun i hi _ => h.block i hi (by simp)⟩
theorem chgD {g : Nat} {w w' : World} (h : Chg (fun y => y = g) w.drew w') : Chg (fun y => y = g) w w' := ⟨h.os, h.tape, h.output, h.size, h.block⟩
theorem gb_chg {a w w' : World} {g : Nat} (h : a.grownBy w none) (k : Chg (fun y => y = g) w w') (hg : a.heap.size ≤ g) : a.grownBy w' none := gbChg h k (fun i hi => by have : i = g := hi; omega)
end Go.Proofs.Ythdfkiaoahpjpaa
/-
  Words and tapes: what they compute.
-/
namespace Go.Proofs.Ythdfkiaoahpjpaa
open Go.RowKit
set_option linter.unusedVariables false
set_option linter.unusedSimpArgs false
end Go.Proofs.Ythdfkiaoahpjpaa
/-
  TapeBelow, TapeFork: what they compute.
-/
namespace Go.Proofs.Ythdfkiaoahpjpaa
open Go.RowKit
set_option linter.unusedVariables false
set_option linter.unusedSimpArgs false
end Go.Proofs.Ythdfkiaoahpjpaa
/-
  TapeList: what it computes.
-/
namespace Go.Proofs.Ythdfkiaoahpjpaa
open Go.RowKit
set_option linter.unusedVariables false
set_option linter.unusedSimpArgs false
end Go.Proofs.Ythdfkiaoahpjpaa
/-
  FieldOk and FieldBits: reference and program.
-/
namespace Go.Proofs.Ythdfkiaoahpjpaa
open Go.RowKit
set_option linter.unusedVariables false
set_option linter.unusedSimpArgs false
def fb (p : Int) : Nat := if p ≤ 2 then 1 else if p ≤ 4 then 2 else if p ≤ 8 then 3 else if p ≤ 16 then 4 else if p ≤ 32 then 5 else if p ≤ 64 then 6 else 7
end Go.Proofs.Ythdfkiaoahpjpaa
/-
  Elements of a field: IsElement, l03Both, areElements, l03All, FAdd, FSub.
-/
namespace Go.Proofs.Ythdfkiaoahpjpaa
open Go.RowKit
set_option linter.unusedVariables false
set_option linter.unusedSimpArgs false
def elemB (p a : Int) : Bool := fieldB p && decide (0 ≤ a) && decide (a ≤ p - 1)
def elemsB (p : Int) (zs : List Int) : Bool := fieldB p && zs.all fun a => decide (0 ≤ a) && decide (a ≤ p - 1)
end Go.Proofs.Ythdfkiaoahpjpaa
/-
  XorField, XorAll: reference and program, and their exact laws.
-/
namespace Go.Proofs.Ythdfkiaoahpjpaa
open Go.RowKit
set_option linter.unusedVariables false
set_option linter.unusedSimpArgs false
theorem prod_le {a b m : Int} (ha : 0 ≤ a) (hb : 0 ≤ b) (ha' : a ≤ m) (hb' : b ≤ m) : 0 ≤ a * b ∧ a * b ≤ m * m :=
  ⟨Int.mul_nonneg ha hb, Int.mul_le_mul ha' hb' hb (by omega)⟩
end Go.Proofs.Ythdfkiaoahpjpaa
/-
  XorAll: reference and program, and its exact law.
-/
namespace Go.Proofs.Ythdfkiaoahpjpaa
open Go.RowKit
set_option linter.unusedVariables false
set_option linter.unusedSimpArgs false
end Go.Proofs.Ythdfkiaoahpjpaa
