/-
  Opening a law's arguments: from the form's reading to what the walks ask.
-/
import Derived.Test.YthdfkiaoahpjpaaRows
import Derived.Test.YthdfkiaoahpjpaaMgFnConstantCircuits28
import Derived.ProofKit
import Derived.OpenShut
import Derived.Lib.SmallJoins
import Derived.ChangeOld
import Derived.Maps.OwnOps
import Derived.Maps.OwnSet
import Derived.DeepKeys4
namespace Go.Proofs.Ythdfkiaoahpjpaa
open Go.ChangeShapes Go.WideShapes Go.ChangeAt Go.RowKit Go.Joins
theorem own : ownKnob Try.prog.godebug = none := by kernel_rfl
theorem laidOut : laidOutB Try.prog = true := by kernel_rfl
section
variable {H : Type} {enc : TypeId × Value → H} {P : Program} {w : World} {base : Nat} {spare : Nat → Bool} {held : Bool}
theorem tS {t e : TypeId} {k : IntKind} {m : Nat} {v : Value} {y : DataW H × List MemPlace} (ht : P.underlying t = some (.slice e)) (he : P.underlying e = some (.int k)) (hc : P.cellsOf e = 1)
    (h : DataW.trod enc P w base spare held m t [v] = some y) : ∃ A n c zs, v = .slice A n c ∧ IntsK k w A n zs ∧ n ≤ maxLen := by
  rcases open_ints ht he hc h with ⟨hcs, _⟩ | ⟨a, l, c, zs, hcs, _, hl, hm, hz, _, hcell, hwz⟩
  · simp at hcs
    exact ⟨none, 0, 0, [], hcs, ⟨⟨by simp, fun h => absurd h (by omega)⟩, by simp⟩, by simp⟩
  · simp at hcs
    have hlz : l ≤ zs.length := by rw [hz]; split <;> omega
    refine ⟨some a, l, c, zs.take l, hcs, ⟨⟨by simp; omega, fun hp => ?_⟩, fun z hz' => hwz z (List.mem_of_mem_take hz')⟩, by omega⟩
    obtain ⟨b, o, s⟩ := a
    have h0 := hcell 0 (by omega)
    have hs : s = none := by simpa [Addr.add] using World.cell?_spot h0
    subst hs
    refine ⟨b, o, rfl, World.block_lt_of_cell? w _ h0, fun j hj => ?_⟩
    have hj' := hcell j (by omega)
    have hadd : (⟨b, o, none⟩ : Addr).add j = ⟨b, o + j, none⟩ := by unfold Addr.add; split <;> simp_all
    rw [hadd] at hj'
    rw [hj', List.getElem?_map, List.getElem?_take, if_pos (by omega), List.getElem?_eq_getElem (show j < zs.length by omega)]
    simp [List.getD_eq_getElem?_getD, List.getElem?_eq_getElem (show j < zs.length by omega)]
end
theorem andT {a b : Bool} (ha : a = true) (hb : b = true) : (a && b) = true := by rw [ha, hb]; rfl
theorem lF {b : Bool} (h : b = false) : (b == Try.prog.liftsFinal) = true := by rw [liftsFinal, h]; rfl
theorem mK {m : Make} (h : m = .cut) : (Try.prog.make == some m) = true := by rw [make, h]; rfl
theorem gbEnd {a b : World} (h : a.grownBy b none) : Below a.heap.size a b := gbBelow h
end Go.Proofs.Ythdfkiaoahpjpaa
/-
  A map of gates to wires that the call makes: constants alone.
-/
namespace Go.Proofs.Ythdfkiaoahpjpaa
open Go.RowKit Go.Maps
set_option linter.unusedVariables false
set_option linter.unusedSimpArgs false
theorem lawGate : Keyed Try.prog 41 := Keyed.of_law (deep_law_laid laidOut (m := 2) (by omega) (of_decide_eq_true (by kernel_rfl)) (by kernel_rfl) (by kernel_rfl))
theorem zeroInt (w : World) : (zeroValue 3).run Try.prog w = .ok (.int .i64 0) w := by kernel_rfl
def gvB (b : Nat) : Value := .agg #[.int .i64 2, .int .i64 b, .int .i64 0]
theorem keyG {b : Nat} (hb : b ≤ 1) : ∃ l, keyOf Try.prog 41 (gvB b) = some l := by
  rcases (by omega : b = 0 ∨ b = 1) with rfl | rfl
  · exact Option.isSome_iff_exists.1 (by kernel_rfl)
  · exact Option.isSome_iff_exists.1 (by kernel_rfl)
theorem keyG_ne {a b : Nat} {l k : Lit} (ha : keyOf Try.prog 41 (gvB a) = some l) (hb : keyOf Try.prog 41 (gvB b) = some k) (h : a ≠ b) : l ≠ k := by
  intro e
  subst e
  have := lawGate.inj ha hb
  unfold gvB at this
  injection this with this
  have h2 := congrArg (fun x : Array Value => x[1]?) this
  simp at h2
  omega
def ixB : List Nat → Nat → Nat
  | [], _ => 0
  | a :: l, b => if a = b then 0 else ixB l b + 1
theorem ixB_mem : ∀ {L : List Nat} {b : Nat}, b ∈ L → L[ixB L b]? = some b
  | [], _, h => by simp at h
  | a :: l, b, h => by
    unfold ixB
    by_cases e : a = b
    · rw [if_pos e, e]; rfl
    · rw [if_neg e, List.getElem?_cons_succ]
      exact ixB_mem (by simpa [Ne.symm e] using h)
theorem ixB_app : ∀ {L M : List Nat} {b : Nat}, b ∈ L → ixB (L ++ M) b = ixB L b
  | [], _, _, h => by simp at h
  | a :: l, M, b, h => by
    rw [List.cons_append, ixB, ixB]
    by_cases e : a = b
    · rw [if_pos e, if_pos e]
    · rw [if_neg e, if_neg e, ixB_app (by simpa [Ne.symm e] using h)]
theorem ixB_new : ∀ {L : List Nat} {b : Nat}, b ∉ L → ixB (L ++ [b]) b = L.length
  | [], b, _ => by simp [ixB]
  | a :: l, b, h => by
    rw [List.cons_append, ixB]
    have e : ¬ a = b := fun e => h (by simp [e])
    rw [if_neg e, ixB_new (fun h' => h (List.mem_cons_of_mem _ h'))]
    rfl
def MapG (w : World) (mb n : Nat) (L : List Nat) : Prop :=
  ∃ D : DataW Unit, w.ownsMap Try.prog 41 (plainElem Try.prog 3) mb n D ∧ ∀ b, b ≤ 1 → ∀ l, keyOf Try.prog 41 (gvB b) = some l → (b ∈ L → Maps.has D l = true ∧ D.atKey l (.lit (.int .i64 0)) = .lit (.int .i64 (ixB L b : Nat))) ∧ (b ∉ L → Maps.has D l = false)
section
variable {w w' : World} {mb n : Nat} {L : List Nat}
theorem MapG.made (w : World) : MapG (w.alloc (.map #[] 0)) w.heap.size 0 [] := ⟨_, World.ownsMap_made _ _ _ _, fun b hb l hl => ⟨fun h => by simp at h, fun _ => rfl⟩⟩
theorem MapG.lt (h : MapG w mb n L) : mb < w.heap.size := by obtain ⟨D, h1, _⟩ := h; exact h1.lt
theorem MapG.off {r : Option Nat} (h : MapG w mb n L) (hg : w.grownBy w' r) (hne : some mb ≠ r) : MapG w' mb n L := by
  obtain ⟨D, h1, h2⟩ := h
  exact ⟨D, h1.kept hg hne, h2⟩
theorem MapG.chg {S : Nat → Prop} (h : MapG w mb n L) (k : Chg S w w') (hS : ¬ S mb) : MapG w' mb n L := by
  obtain ⟨D, ⟨es, clock, hb, r⟩, h2⟩ := h
  exact ⟨D, ⟨es, clock, by rw [k.block mb (Array.getElem?_eq_some_iff.1 hb).1 hS]; exact hb, r⟩, h2⟩
theorem MapG.isMap (h : MapG w mb n L) : ∃ es clock, w.heap[mb]? = some (.map es clock) := by
  obtain ⟨D, ⟨es, clock, hb, r⟩, h2⟩ := h
  exact ⟨es, clock, hb⟩
set_option maxRecDepth 100000 in
theorem MapG.yes (h : MapG w mb n L) {b : Nat} (hb : b ≤ 1) (hm : b ∈ L) : (Instr.lookup 122 (.map (some mb)) (gvB b) true).run Try.prog w = .ok (.tuple #[.int .i64 (ixB L b : Nat), .bool true]) w := by
  obtain ⟨D, h1, h2⟩ := h
  obtain ⟨l, hl⟩ := keyG hb
  obtain ⟨v, ps, hr, hv⟩ := h1.look_ok lawGate Try.underlying122 (zeroInt w) (plainElem_int Try.underlying3 (by decide)) hl
  obtain ⟨q1, q2⟩ := (h2 b hb l hl).1 hm
  rw [q2] at hv
  rw [q1] at hr
  obtain ⟨a, rfl, e, _⟩ := plainElem_int_inv Try.underlying3 hv
  injection e with e _
  injection e with e
  injection e with _ e
  rw [← e] at hr
  exact hr
set_option maxRecDepth 100000 in
theorem MapG.no (h : MapG w mb n L) {b : Nat} (hb : b ≤ 1) (hm : b ∉ L) : (Instr.lookup 122 (.map (some mb)) (gvB b) true).run Try.prog w = .ok (.tuple #[.int .i64 0, .bool false]) w := by
  obtain ⟨D, h1, h2⟩ := h
  obtain ⟨l, hl⟩ := keyG hb
  obtain ⟨v, ps, hr, hv⟩ := h1.look_ok lawGate Try.underlying122 (zeroInt w) (plainElem_int Try.underlying3 (by decide)) hl
  have q1 := (h2 b hb l hl).2 hm
  rw [Maps.atKey_of_not_has q1] at hv
  rw [q1] at hr
  obtain ⟨a, rfl, e, _⟩ := plainElem_int_inv Try.underlying3 hv
  injection e with e _
  injection e with e
  injection e with _ e
  rw [← e] at hr
  exact hr
variable {ops : Array Oper} {rest : List Oper} {o : Oper} {a : Act} {Q : Exit → Act → World → Prop}
set_option maxRecDepth 100000 in
theorem wp_putG (w : World) (hg : o.guard = none) (m x v : Operand) (hop : o.op = Op.mapUpdate 122 m x v) (mb n : Nat) (L : List Nat) (hown : MapG w mb n L) (hm : a.eval m = .map (some mb)) (b : Nat) (hb : b ≤ 1) (hnb : b ∉ L) (hx : a.eval x = gvB b) (hL : L.length ≤ 1000) (hv : a.eval v = .int .i64 (L.length : Nat)) (hn : n < maxLen)
    (hK : ∀ w', MapG w' mb (n + 1) (L ++ [b]) → w.grownBy w' (some mb) → wpList Try.prog ops Q rest (a.put o.dst undef) w') : wpList Try.prog ops Q (o :: rest) a w := by
  obtain ⟨D, h1, h2⟩ := hown
  obtain ⟨l, hl⟩ := keyG hb
  refine wpList_mapUpdate_own w hg m x v 122 hop 41 3 lawGate Try.underlying122 _ mb n D hm h1 hn _ _ l hx hv hl _ _ (plainElem_int Try.underlying3 (by simp [Lit.wf, IntKind.min, IntKind.max, IntKind.signed, IntKind.bits]; omega)) fun w' h3 hg' => hK w' ⟨_, h3, fun c hc k hk => ?_⟩ hg'
  have hik := lawGate.key hl
  by_cases e : c = b
  · subst e
    obtain rfl : k = l := by rw [hl] at hk; injection hk with hk; exact hk.symm
    refine ⟨fun _ => ⟨Maps.has_put_same h1.isMap hik _, ?_⟩, fun h => absurd (by simp) h⟩
    rw [Maps.atKey_put_same h1.isMap hik, ixB_new hnb]
  · have hne := keyG_ne hk hl e
    refine ⟨fun h => ?_, fun h => ?_⟩
    · have h4 : c ∈ L := by simpa [e] using h
      obtain ⟨q1, q2⟩ := (h2 c hc k hk).1 h4
      refine ⟨by rw [Maps.has_put_other hne]; exact q1, ?_⟩
      rw [Maps.atKey_put_other hne, q2, ixB_app h4]
    · rw [Maps.has_put_other hne]
      exact (h2 c hc k hk).2 (fun h' => h (List.mem_append_left _ h'))
end
end Go.Proofs.Ythdfkiaoahpjpaa
