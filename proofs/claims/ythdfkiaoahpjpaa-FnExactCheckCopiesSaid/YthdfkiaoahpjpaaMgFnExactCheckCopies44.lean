/-
  The dump's head, its first three words apart from the rest: three closed facts on the whole program look at these words alone.
-/
import Derived.KernelRfl
import GoSem.ClaimJoined
import Derived.Test.YthdfkiaoahpjpaaRows
import Derived.ProofKit
import Derived.OpenShut
import Derived.Lib.SmallJoins
import Derived.ChangeOld
import Derived.Test.YthdfkiaoahpjpaaMgFnExactCheckCopies4
import Derived.Deep.Slices
import Derived.Deep.Fields
import Derived.ChangeSame
namespace Go.Proofs.Ythdfkiaoahpjpaa
set_option maxRecDepth 100000
theorem ws_word : ∀ (w r : List Char), (w.all fun c => c != Char.ofNat 32) = true → wordsSigns (w ++ Char.ofNat 32 :: r) = w :: wordsSigns r
  | [], r, _ => by rfl
  | c :: w, r, h => by
    simp only [List.all_cons, Bool.and_eq_true, bne_iff_ne] at h
    have ih := ws_word w r h.2
    have hc : ¬ c = Char.ofNat 32 := h.1
    show wordsSigns (c :: (w ++ Char.ofNat 32 :: r)) = _
    rw [wordsSigns, ih]
    exact fun e => hc e
def wHead : List Char := (List.map Char.ofNat [104, 97, 114, 110, 101, 115, 115])
def wSum : List Char := (List.map Char.ofNat [51, 52, 99, 52, 57, 52, 55, 55, 56, 99, 55, 55, 52, 54, 98, 100, 51, 101, 102, 97, 100, 56, 56, 101, 51, 56, 100, 49, 49, 50, 100, 102, 101, 101, 98, 49, 53, 98, 54, 48, 100, 53, 97, 51, 50, 97, 50, 100, 99, 102, 49, 49, 56, 53, 56, 50, 53, 55, 57, 48, 100, 48, 57, 100])
def wCut : List Char := (List.map Char.ofNat [99, 117, 116])
def wRest : List Char := (List.map Char.ofNat [97, 116, 32, 108, 111, 111, 112, 46, 101, 120, 97, 109, 112, 108, 101, 47, 103, 48, 48, 57, 55, 57, 47, 108, 97, 119, 115, 46, 70, 110, 67, 111, 109, 112, 97, 114, 105, 115, 111, 110, 115, 32, 108, 111, 111, 112, 46, 101, 120, 97, 109, 112, 108, 101, 47, 103, 48, 48, 57, 55, 57, 47, 108, 97, 119, 115, 46, 70, 110, 65, 114, 105, 116, 104, 109, 101, 116, 105, 99, 32, 108, 111, 111, 112, 46, 101, 120, 97, 109, 112, 108, 101, 47, 103, 48, 48, 57, 55, 57, 47, 108, 97, 119, 115, 46, 70, 110, 67, 111, 110, 115, 116, 97, 110, 116, 67, 105, 114, 99, 117, 105, 116, 115, 32, 108, 111, 111, 112, 46, 101, 120, 97, 109, 112, 108, 101, 47, 103, 48, 48, 57, 55, 57, 47, 108, 97, 119, 115, 46, 70, 110, 69, 120, 97, 99, 116, 67, 111, 112, 105, 101, 115, 78, 101, 119, 32, 108, 111, 111, 112, 46, 101, 120, 97, 109, 112, 108, 101, 47, 103, 48, 48, 57, 55, 57, 47, 108, 97, 119, 115, 46, 70, 110, 69, 120, 97, 99, 116, 67, 104, 101, 99, 107, 67, 111, 112, 105, 101, 115, 32, 108, 111, 111, 112, 46, 101, 120, 97, 109, 112, 108, 101, 47, 103, 48, 48, 57, 55, 57, 47, 108, 97, 119, 115, 46, 70, 110, 67, 97, 117, 103, 104, 116])
theorem behind_of (h s : List Char) (r : List (List Char)) (hc : ((h == "harness".toList || h == "ownmain".toList) && isSumSigns s) = true) : behindMainWord (h :: s :: r) = r := by
  simp only [behindMainWord, hc, if_true]
theorem initIs : Try.prog.initOrder = String.ofList (wHead ++ Char.ofNat 32 :: (wSum ++ Char.ofNat 32 :: (wCut ++ Char.ofNat 32 :: wRest))) := by kernel_rfl
theorem words : ∃ X, wordsSigns Try.prog.initOrder.toList = wHead :: wSum :: wCut :: X := by
  rw [initIs, String.toList_ofList]
  refine ⟨wordsSigns wRest, ?_⟩
  rw [ws_word _ _ (by as_aux_lemma => kernel_rfl), ws_word _ _ (by as_aux_lemma => kernel_rfl), ws_word _ _ (by as_aux_lemma => kernel_rfl)]
theorem behind : ∃ X, behindMainWord (wordsSigns Try.prog.initOrder.toList) = wCut :: X := by
  obtain ⟨X, h⟩ := words
  refine ⟨X, ?_⟩
  rw [h]
  exact behind_of _ _ _ (by as_aux_lemma => kernel_rfl)
theorem strip (X : List (List Char)) : stripLifts liftWords (wCut :: X) = ([], wCut :: X) := by
  have hc : ∀ o ∈ liftWords, (wCut == o.toList) = false := by as_aux_lemma => exact of_decide_eq_true (by kernel_rfl)
  generalize wCut = c at hc
  generalize liftWords = l at hc
  induction l with
  | nil => rfl
  | cons o os ih =>
    rw [stripLifts, if_neg (by rw [hc o (List.mem_cons_self ..)]; simp)]
    exact ih fun o' ho' => hc o' (List.mem_cons_of_mem _ ho')
theorem c_gc : (wCut == "gc".toList) = false := by as_aux_lemma => kernel_rfl
theorem c_spec : (wCut == "spec".toList) = false := by as_aux_lemma => kernel_rfl
theorem c_carried : (wCut == "carried".toList) = false := by as_aux_lemma => kernel_rfl
theorem c_cut : (wCut == "cut".toList) = true := by as_aux_lemma => kernel_rfl
theorem later : Try.prog.laysLater = false := by as_aux_lemma => kernel_rfl
theorem noReflect : Try.prog.bearsReflect = false := by as_aux_lemma => kernel_rfl
theorem door : Try.prog.doorFits [] = true := by as_aux_lemma => kernel_rfl
theorem mayEnter_of {P : Program} {c : List Char} {X : List (List Char)} (h : behindMainWord (wordsSigns P.initOrder.toList) = c :: X) (hs : stripLifts liftWords (c :: X) = ([], c :: X))
    (h1 : (c == "gc".toList) = false) (h2 : (c == "spec".toList) = false) (h3 : (c == "carried".toList) = false) (h4 : (c == "cut".toList) = true) (l : P.laysLater = false) (r : P.bearsReflect = false) (d : P.doorFits [] = true) : P.mayEnter = true := by
  unfold Program.mayEnter
  rw [h]
  simp only [hs, h1, h2, h3, h4, l, r, d, List.head?_cons, Option.some_beq_some, Bool.false_and, Bool.or_false, Bool.not_false, Bool.or_true, Bool.and_true, List.contains_nil]
theorem mayEnter : Try.prog.mayEnter = true := by
  obtain ⟨X, h⟩ := behind
  exact mayEnter_of h (strip X) c_gc c_spec c_carried c_cut later noReflect door
theorem lifts_of {P : Program} {c : List Char} {X : List (List Char)} (h : behindMainWord (wordsSigns P.initOrder.toList) = c :: X) (hs : stripLifts liftWords (c :: X) = ([], c :: X)) : P.headLifts = [] := by
  unfold Program.headLifts
  rw [h, hs]
  show (if ((([] : List String), c :: X).2.head? == some "cut".toList) = true then [] else []) = []
  split <;> rfl
theorem final_of {P : Program} {c : List Char} {X : List (List Char)} (h : behindMainWord (wordsSigns P.initOrder.toList) = c :: X) (hs : stripLifts liftWords (c :: X) = ([], c :: X)) (h3 : (c == "carried".toList) = false) : P.liftsFinal = false := by
  unfold Program.liftsFinal
  rw [lifts_of h hs, h]
  simp only [List.head?_cons, Option.some_beq_some, h3, Bool.false_and, Bool.false_or, List.contains_nil]
theorem liftsFinal : Try.prog.liftsFinal = false := by
  obtain ⟨X, h⟩ := behind
  exact final_of h (strip X) c_carried
theorem make_of {P : Program} {c : List Char} {X : List (List Char)} (h : behindMainWord (wordsSigns P.initOrder.toList) = c :: X)
    (h1 : (c == "gc".toList) = false) (h2 : (c == "spec".toList) = false) (h4 : (c == "cut".toList) = true) : P.make = some .cut := by
  unfold Program.make
  rw [h]
  simp only [h1, h2, h4, Bool.false_or, Bool.true_or, if_true, Bool.false_eq_true, if_false]
theorem make : Try.prog.make = some .cut := by
  obtain ⟨X, h⟩ := behind
  exact make_of h c_gc c_spec c_cut
end Go.Proofs.Ythdfkiaoahpjpaa
/-
  Opening a law's arguments: from the form's reading to what the walks ask.
-/
namespace Go.Proofs.Ythdfkiaoahpjpaa
open Go.ChangeShapes Go.WideShapes Go.ChangeAt Go.RowKit Go.Joins
theorem own : ownKnob Try.prog.godebug = none := by kernel_rfl
theorem laidOut : laidOutB Try.prog = true := by kernel_rfl
section
variable {H : Type} {enc : TypeId × Value → H} {P : Program} {w : World} {base : Nat} {spare : Nat → Bool} {held : Bool}
theorem tI {t : TypeId} {k : IntKind} {m : Nat} {v : Value} {y : DataW H × List MemPlace} (ht : P.underlying t = some (.int k)) (h : DataW.trod enc P w base spare held m t [v] = some y) : ∃ n, v = .int k n ∧ (Lit.int k n).wf = true := by
  obtain ⟨n, h1, _, hw⟩ := DataW.trod_int ht h
  simp at h1
  exact ⟨n, h1, hw⟩
theorem tB {t : TypeId} {m : Nat} {v : Value} {y : DataW H × List MemPlace} (ht : P.underlying t = some .bool) (h : DataW.trod enc P w base spare held m t [v] = some y) : ∃ b, v = .bool b := by
  obtain ⟨n, h1, _⟩ := DataW.trod_bool ht h
  simp at h1
  exact ⟨n, h1⟩
end
theorem andT {a b : Bool} (ha : a = true) (hb : b = true) : (a && b) = true := by rw [ha, hb]; rfl
theorem lF {b : Bool} (h : b = false) : (b == Try.prog.liftsFinal) = true := by rw [liftsFinal, h]; rfl
theorem mK {m : Make} (h : m = .cut) : (Try.prog.make == some m) = true := by rw [make, h]; rfl
theorem gbEnd {a b : World} (h : a.grownBy b none) : Below a.heap.size a b := gbBelow h
end Go.Proofs.Ythdfkiaoahpjpaa
/-
  Opening a law's arguments: slices of structs of numbers.
-/
namespace Go.Proofs.Ythdfkiaoahpjpaa
open Go.ChangeShapes Go.WideShapes Go.ChangeAt Go.RowKit Go.Joins Go.Deep
set_option linter.unusedVariables false
set_option linter.unusedSimpArgs false
theorem list_of {β : Type} (Q : Nat → β → Prop) : ∀ n, (∀ i, i < n → ∃ b, Q i b) → ∃ l : List β, l.length = n ∧ ∀ i b, l[i]? = some b → Q i b
  | 0, _ => ⟨[], rfl, fun i b h => by simp at h⟩
  | n + 1, h => by
    obtain ⟨l, hl, hq⟩ := list_of Q n fun i hi => h i (by omega)
    obtain ⟨b, hb⟩ := h n (by omega)
    refine ⟨l ++ [b], by simp [hl], fun i b' h' => ?_⟩
    by_cases hi : i < n
    · rw [List.getElem?_append_left (by omega)] at h'; exact hq i b' h'
    · rw [List.getElem?_append_right (by omega)] at h'
      have e : i = n := by
        have := (List.getElem?_eq_some_iff.1 h').1
        simp at this; omega
      subst e
      rw [hl, Nat.sub_self] at h'
      injection h' with h'
      subst h'; exact hb
section
variable {H : Type} {enc : TypeId × Value → H} {P : Program} {w : World} {base : Nat} {spare : Nat → Bool} {held : Bool}
theorem open_fields {t e : TypeId} {fs : Array Field} {fuel : Nat} {cs : List Value} {x : DataW H × List MemPlace} (ht : P.underlying t = some (.slice e)) (he : P.underlying e = some (.struct fs))
    (hone : oneCellFields P fs = true) (hC : P.cellsOf e = fs.size) (h : DataW.trod enc P w base spare held fuel t cs = some x) :
    cs = [.slice none 0 0] ∨
    ∃ (a : Addr) (len cap : Nat), cs = [.slice (some a) len cap] ∧ len ≤ cap ∧ cap ≤ maxLen ∧
      ∀ i, i < len → ∀ (j : Nat) (f : Field), fs[j]? = some f → ∃ (v : Value) (n : Nat) (y : DataW H × List MemPlace), w.cell? (a.add (i * fs.size + j)) = some v ∧ DataW.trod enc P w base spare held n f.type [v] = some y := by
  rcases open_slice ht h with h0 | ⟨a, len, cap, m, n, D, Pl, hcs, hb, hl, hm, hmm, hx, hi⟩
  · exact .inl h0.1
  · refine .inr ⟨a, len, cap, hcs, hl, hm, fun i him j f hj => ?_⟩
    obtain ⟨cs', hc, ht'⟩ := hi i (by rw [hmm]; split <;> omega)
    rw [hC] at hc
    obtain ⟨ys, n', hn', hy, hlen, hyl, hf⟩ := DataW.trod_struct he ht'
    obtain ⟨_, hcl, hat⟩ := World.cells?_some hc
    obtain ⟨ho, hk⟩ := hone_of hone j f hj
    have hjl : j < fs.size := (Array.getElem?_eq_some_iff.1 hj).1
    have hcell := hat j hjl
    have hv : cs'[j]? = some (cs'[j]'(by omega)) := List.getElem?_eq_getElem (by omega)
    have h1 := hf j f hj
    rw [ho, hk] at h1
    have hone' : (cs'.drop j).take 1 = [cs'[j]'(by omega)] := by
      rw [List.drop_eq_getElem_cons (by omega)]
      rfl
    rw [hone'] at h1
    have hys : ys[j]? = some (ys[j]'(by omega)) := List.getElem?_eq_getElem (by omega)
    refine ⟨_, _, _, ?_, h1.trans hys⟩
    rw [← Go.Deep.add_add, hcell, hv]
theorem add_off (b o j : Nat) : (⟨b, o, none⟩ : Addr).add j = ⟨b, o + j, none⟩ := by unfold Addr.add; split <;> simp_all
theorem tSK {t e : TypeId} {fs : Array Field} {m : Nat} {v : Value} {y : DataW H × List MemPlace} (ht : P.underlying t = some (.slice e)) (he : P.underlying e = some (.struct fs))
    (hone : oneCellFields P fs = true) (hC : P.cellsOf e = fs.size) (hint : ∀ (j : Nat) (f : Field), fs[j]? = some f → P.underlying f.type = some (.int .i64)) (hs : 0 < fs.size)
    (h : DataW.trod enc P w base spare held m t [v] = some y) :
    ∃ A n c, ∃ zss : List (List Int), v = .slice A n c ∧ n ≤ c ∧ c ≤ maxLen ∧ zss.length = n ∧ (∀ zs ∈ zss, zs.length = fs.size ∧ ∀ z ∈ zs, (Lit.int .i64 z).wf = true) ∧ Rd w fs.size A n (zss.flatMap fun zs => zs.map (Value.int .i64)) := by
  rcases open_fields ht he hone hC h with hcs | ⟨a, l, c, hcs, hl, hm, hf⟩
  · simp at hcs
    exact ⟨none, 0, 0, [], hcs, Nat.le_refl _, by simp, rfl, by simp, by simp, fun h => absurd h (by omega)⟩
  · simp at hcs
    have hrow : ∀ i, i < l → ∃ zs : List Int, zs.length = fs.size ∧ ∀ (j : Nat) (z : Int), zs[j]? = some z → w.cell? (a.add (i * fs.size + j)) = some (.int .i64 z) ∧ (Lit.int .i64 z).wf = true := fun i hi =>
      list_of (fun j z => w.cell? (a.add (i * fs.size + j)) = some (.int .i64 z) ∧ (Lit.int .i64 z).wf = true) fs.size fun j hj => by
        obtain ⟨v', n', y', hc, ht'⟩ := hf i hi j fs[j] (Array.getElem?_eq_getElem hj)
        obtain ⟨z, rfl, hw⟩ := tI (hint j fs[j] (Array.getElem?_eq_getElem hj)) ht'
        exact ⟨z, hc, hw⟩
    obtain ⟨zss, hzl, hz⟩ := list_of _ l hrow
    have hmem : ∀ zs ∈ zss, zs.length = fs.size ∧ ∀ z ∈ zs, (Lit.int .i64 z).wf = true := fun zs hzs => by
      obtain ⟨i, hi⟩ := List.mem_iff_getElem?.1 hzs
      refine ⟨(hz i zs hi).1, fun z hz' => ?_⟩
      obtain ⟨j, hj⟩ := List.mem_iff_getElem?.1 hz'
      exact ((hz i zs hi).2 j z hj).2
    refine ⟨some a, l, c, zss, hcs, hl, hm, hzl, hmem, ?_, fun hp => ?_⟩
    · have : ∀ xs : List (List Int), (∀ zs ∈ xs, zs.length = fs.size) → (xs.flatMap fun zs => zs.map (Value.int .i64)).length = xs.length * fs.size := by
        intro xs
        induction xs with
        | nil => simp
        | cons x xs ih =>
          intro hx
          rw [List.flatMap_cons, List.length_append, ih fun zs hzs => hx zs (List.mem_cons_of_mem _ hzs), List.length_map, hx x (List.mem_cons_self ..), List.length_cons, Nat.succ_mul]; omega
      rw [this zss fun zs hzs => (hmem zs hzs).1, hzl]
    · obtain ⟨b, o, s⟩ := a
      have h0 : ∃ z, w.cell? (Addr.add ⟨b, o, s⟩ (0 * fs.size + 0)) = some (.int .i64 z) := by
        have hz0 : zss[0]? = some zss[0] := List.getElem?_eq_getElem (by omega)
        have h1 := hz 0 _ hz0
        have h2 : zss[0][0]? = some (zss[0][0]'(by have := h1.1; omega)) := List.getElem?_eq_getElem _
        exact ⟨_, (h1.2 0 _ h2).1⟩
      obtain ⟨z0, h0⟩ := h0
      have hs' : s = none := by simpa [Addr.add] using World.cell?_spot h0
      subst hs'
      rw [add_off] at h0
      refine ⟨b, o, rfl, World.block_lt_of_cell? w _ h0, fun j hj => ?_⟩
      have hgen : ∀ (xs : List (List Int)) (q : Nat), (∀ zs ∈ xs, zs.length = fs.size) → (xs.flatMap fun zs => zs.map (Value.int .i64))[q]? = xs[q / fs.size]?.bind fun zs => (zs.map (Value.int .i64))[q % fs.size]? := by
        intro xs
        induction xs with
        | nil => intro q _; simp
        | cons x xs ih =>
          intro q hx
          have hxl := hx x (List.mem_cons_self ..)
          rw [List.flatMap_cons]
          by_cases hq : q < fs.size
          · rw [List.getElem?_append_left (by simpa [hxl] using hq), Nat.div_eq_of_lt hq, Nat.mod_eq_of_lt hq]; simp
          · rw [List.getElem?_append_right (by simp [hxl]; omega), List.length_map, hxl, ih _ fun zs hzs => hx zs (List.mem_cons_of_mem _ hzs)]
            have e1 : q / fs.size = (q - fs.size) / fs.size + 1 := by
              rw [Nat.div_eq_sub_div hs (by omega)]
            have e2 : q % fs.size = (q - fs.size) % fs.size := by rw [Nat.mod_eq_sub_mod (by omega)]
            rw [e1, e2]; simp
      rw [hgen zss j fun zs hzs => (hmem zs hzs).1]
      have e : j / fs.size * fs.size + j % fs.size = j := by rw [Nat.mul_comm]; exact Nat.div_add_mod j fs.size
      have hdiv : j / fs.size < l := (Nat.div_lt_iff_lt_mul hs).2 hj
      have hz1 : zss[j / fs.size]? = some (zss[j / fs.size]'(by omega)) := List.getElem?_eq_getElem (by omega)
      have h1 := hz _ _ hz1
      have hmod := Nat.mod_lt j hs
      have h2 : (zss[j / fs.size]'(by omega))[j % fs.size]? = some ((zss[j / fs.size]'(by omega))[j % fs.size]'(by have := h1.1; omega)) := List.getElem?_eq_getElem _
      have h3 := (h1.2 _ _ h2).1
      rw [add_off, e] at h3
      rw [hz1, h3, Option.bind_some, List.getElem?_map, h2]
      rfl
end
theorem fl3 {w : World} {A : Option Addr} {n : Nat} {zss : List (List Int)} (hl : zss.length = n) (h : ∀ zs ∈ zss, zs.length = 3 ∧ ∀ z ∈ zs, (Lit.int .i64 z).wf = true) (hr : Rd w 3 A n (zss.flatMap fun zs => zs.map (Value.int .i64))) :
    ∃ xs, FL c3 3 w A n xs ∧ ∀ x ∈ xs, w3 x := by
  have hc : ∀ zs ∈ zss, c3 (zs.getD 0 0, zs.getD 1 0, zs.getD 2 0) = zs.map (Value.int .i64) := fun zs hzs => by
    obtain ⟨h1, _⟩ := h zs hzs
    match zs, h1 with
    | [a, b, c], _ => rfl
  refine ⟨zss.map fun zs => (zs.getD 0 0, zs.getD 1 0, zs.getD 2 0), ⟨by simp [hl], ?_⟩, fun x hx => ?_⟩
  · have e : (zss.map fun zs => (zs.getD 0 0, zs.getD 1 0, zs.getD 2 0)).flatMap c3 = zss.flatMap fun zs => zs.map (Value.int .i64) := by
      rw [List.flatMap_map]
      clear hr h hl
      induction zss with
      | nil => rfl
      | cons z zss ih => rw [List.flatMap_cons, List.flatMap_cons, hc z (List.mem_cons_self ..), ih fun zs hzs => hc zs (List.mem_cons_of_mem _ hzs)]
    rw [e]; exact hr
  · obtain ⟨zs, hzs, rfl⟩ := List.mem_map.1 hx
    obtain ⟨h1, h2⟩ := h zs hzs
    match zs, h1, h2 with
    | [a, b, c], _, h2 => exact ⟨wf_i64 (h2 a (by simp)), wf_i64 (h2 b (by simp)), wf_i64 (h2 c (by simp))⟩
end Go.Proofs.Ythdfkiaoahpjpaa
