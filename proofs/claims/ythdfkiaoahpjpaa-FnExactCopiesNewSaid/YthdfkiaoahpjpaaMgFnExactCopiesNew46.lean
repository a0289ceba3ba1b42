/-
  Opening a law's arguments: slices of structs of numbers.
-/
import Derived.Test.YthdfkiaoahpjpaaMgFnExactCopiesNew45
import Derived.Deep.Slices
import Derived.Deep.Fields
import Derived.ChangeSame
import Derived.Test.YthdfkiaoahpjpaaMgFnExactCopiesNew13
namespace Go.Proofs.Ythdfkiaoahpjpaa
open Go.ChangeShapes Go.WideShapes Go.ChangeAt Go.RowKit Go.Joins Go.Deep
set_option linter.unusedVariables false
set_option linter.unusedSimpArgs false
theorem list_of {β : Type} (Q : Nat → β → Prop) : ∀ n, (∀ i, i < n → ∃ b, Q i b) → ∃ l : List β, l.length = n ∧ ∀ i b, l[i]? = some b → Q i b
  | 0, _ => ⟨[], rfl, fun i b h => by simp at h⟩
  | n + 1, h => by
    obtain ⟨l, hl, hq⟩ := list_of Q n fun i hi => h i (by omega)
    obtain ⟨b, hb⟩ := h n (by omega)
    refine ⟨l ++ [b], by simp [hl], fun i b' h' => ?_⟩
    by_cases hi : i < n
    · rw [List.getElem?_append_left (by omega)] at h'; exact hq i b' h'
    · rw [List.getElem?_append_right (by omega)] at h'
      have e : i = n := by
        have := (List.getElem?_eq_some_iff.1 h').1
        simp at this; omega
      subst e
      rw [hl, Nat.sub_self] at h'
      injection h' with h'
      subst h'; exact hb
section
variable {H : Type} {enc : TypeId × Value → H} {P : Program} {w : World} {base : Nat} {spare : Nat → Bool} {held : Bool}
theorem open_fields {t e : TypeId} {fs : Array Field} {fuel : Nat} {cs : List Value} {x : DataW H × List MemPlace} (ht : P.underlying t = some (.slice e)) (he : P.underlying e = some (.struct fs))
    (hone : oneCellFields P fs = true) (hC : P.cellsOf e = fs.size) (h : DataW.trod enc P w base spare held fuel t cs = some x) :
    cs = [.slice none 0 0] ∨
    ∃ (a : Addr) (len cap : Nat), cs = [.slice (some a) len cap] ∧ len ≤ cap ∧ cap ≤ maxLen ∧
      ∀ i, i < len → ∀ (j : Nat) (f : Field), fs[j]? = some f → ∃ (v : Value) (n : Nat) (y : DataW H × List MemPlace), w.cell? (a.add (i * fs.size + j)) = some v ∧ DataW.trod enc P w base spare held n f.type [v] = some y := by
  rcases open_slice ht h with h0 | ⟨a, len, cap, m, n, D, Pl, hcs, hb, hl, hm, hmm, hx, hi⟩
  · exact .inl h0.1
  · refine .inr ⟨a, len, cap, hcs, hl, hm, fun i him j f hj => ?_⟩
    obtain ⟨cs', hc, ht'⟩ := hi i (by rw [hmm]; split <;> omega)
    rw [hC] at hc
    obtain ⟨ys, n', hn', hy, hlen, hyl, hf⟩ := DataW.trod_struct he ht'
    obtain ⟨_, hcl, hat⟩ := World.cells?_some hc
    obtain ⟨ho, hk⟩ := hone_of hone j f hj
    have hjl : j < fs.size := (Array.getElem?_eq_some_iff.1 hj).1
    have hcell := hat j hjl
    have hv : cs'[j]? = some (cs'[j]'(by omega)) := List.getElem?_eq_getElem (by omega)
    have h1 := hf j f hj
    rw [ho, hk] at h1
    have hone' : (cs'.drop j).take 1 = [cs'[j]'(by omega)] := by
      rw [List.drop_eq_getElem_cons (by omega)]
      rfl
    rw [hone'] at h1
    have hys : ys[j]? = some (ys[j]'(by omega)) := List.getElem?_eq_getElem (by omega)
    refine ⟨_, _, _, ?_, h1.trans hys⟩
    rw [← Go.Deep.add_add, hcell, hv]
theorem add_off (b o j : Nat) : (⟨b, o, none⟩ : Addr).add j = ⟨b, o + j, none⟩ := by unfold Addr.add; split <;> simp_all
theorem tSK {t e : TypeId} {fs : Array Field} {m : Nat} {v : Value} {y : DataW H × List MemPlace} (ht : P.underlying t = some (.slice e)) (he : P.underlying e = some (.struct fs))
    (hone : oneCellFields P fs = true) (hC : P.cellsOf e = fs.size) (hint : ∀ (j : Nat) (f : Field), fs[j]? = some f → P.underlying f.type = some (.int .i64)) (hs : 0 < fs.size)
    (h : DataW.trod enc P w base spare held m t [v] = some y) :
    ∃ A n c, ∃ zss : List (List Int), v = .slice A n c ∧ n ≤ c ∧ c ≤ maxLen ∧ zss.length = n ∧ (∀ zs ∈ zss, zs.length = fs.size ∧ ∀ z ∈ zs, (Lit.int .i64 z).wf = true) ∧ Rd w fs.size A n (zss.flatMap fun zs => zs.map (Value.int .i64)) := by
  rcases open_fields ht he hone hC h with hcs | ⟨a, l, c, hcs, hl, hm, hf⟩
  · simp at hcs
    exact ⟨none, 0, 0, [], hcs, Nat.le_refl _, by simp, rfl, by simp, by simp, fun h => absurd h (by omega)⟩
  · simp at hcs
    have hrow : ∀ i, i < l → ∃ zs : List Int, zs.length = fs.size ∧ ∀ (j : Nat) (z : Int), zs[j]? = some z → w.cell? (a.add (i * fs.size + j)) = some (.int .i64 z) ∧ (Lit.int .i64 z).wf = true := fun i hi =>
      list_of (fun j z => w.cell? (a.add (i * fs.size + j)) = some (.int .i64 z) ∧ (Lit.int .i64 z).wf = true) fs.size fun j hj => by
        obtain ⟨v', n', y', hc, ht'⟩ := hf i hi j fs[j] (Array.getElem?_eq_getElem hj)
        obtain ⟨z, rfl, hw⟩ := tI (hint j fs[j] (Array.getElem?_eq_getElem hj)) ht'
        exact ⟨z, hc, hw⟩
    obtain ⟨zss, hzl, hz⟩ := list_of _ l hrow
    have hmem : ∀ zs ∈ zss, zs.length = fs.size ∧ ∀ z ∈ zs, (Lit.int .i64 z).wf = true := fun zs hzs => by
      obtain ⟨i, hi⟩ := List.mem_iff_getElem?.1 hzs
      refine ⟨(hz i zs hi).1, fun z hz' => ?_⟩
      obtain ⟨j, hj⟩ := List.mem_iff_getElem?.1 hz'
      exact ((hz i zs hi).2 j z hj).2
    refine ⟨some a, l, c, zss, hcs, hl, hm, hzl, hmem, ?_, fun hp => ?_⟩
    · have : ∀ xs : List (List Int), (∀ zs ∈ xs, zs.length = fs.size) → (xs.flatMap fun zs => zs.map (Value.int .i64)).length = xs.length * fs.size := by
        intro xs
        induction xs with
        | nil => simp
        | cons x xs ih =>
          intro hx
          rw [List.flatMap_cons, List.length_append, ih fun zs hzs => hx zs (List.mem_cons_of_mem _ hzs), List.length_map, hx x (List.mem_cons_self ..), List.length_cons, Nat.succ_mul]; omega
      rw [this zss fun zs hzs => (hmem zs hzs).1, hzl]
    · obtain ⟨b, o, s⟩ := a
      have h0 : ∃ z, w.cell? (Addr.add ⟨b, o, s⟩ (0 * fs.size + 0)) = some (.int .i64 z) := by
        have hz0 : zss[0]? = some zss[0] := List.getElem?_eq_getElem (by omega)
        have h1 := hz 0 _ hz0
        have h2 : zss[0][0]? = some (zss[0][0]'(by have := h1.1; omega)) := List.getElem?_eq_getElem _
        exact ⟨_, (h1.2 0 _ h2).1⟩
      obtain ⟨z0, h0⟩ := h0
      have hs' : s = none := by simpa [Addr.add] using World.cell?_spot h0
      subst hs'
      rw [add_off] at h0
      refine ⟨b, o, rfl, World.block_lt_of_cell? w _ h0, fun j hj => ?_⟩
      have hgen : ∀ (xs : List (List Int)) (q : Nat), (∀ zs ∈ xs, zs.length = fs.size) → (xs.flatMap fun zs => zs.map (Value.int .i64))[q]? = xs[q / fs.size]?.bind fun zs => (zs.map (Value.int .i64))[q % fs.size]? := by
        intro xs
        induction xs with
        | nil => intro q _; simp
        | cons x xs ih =>
          intro q hx
          have hxl := hx x (List.mem_cons_self ..)
          rw [List.flatMap_cons]
          by_cases hq : q < fs.size
          · rw [List.getElem?_append_left (by simpa [hxl] using hq), Nat.div_eq_of_lt hq, Nat.mod_eq_of_lt hq]; simp
          · rw [List.getElem?_append_right (by simp [hxl]; omega), List.length_map, hxl, ih _ fun zs hzs => hx zs (List.mem_cons_of_mem _ hzs)]
            have e1 : q / fs.size = (q - fs.size) / fs.size + 1 := by
              rw [Nat.div_eq_sub_div hs (by omega)]
            have e2 : q % fs.size = (q - fs.size) % fs.size := by rw [Nat.mod_eq_sub_mod (by omega)]
            rw [e1, e2]; simp
      rw [hgen zss j fun zs hzs => (hmem zs hzs).1]
      have e : j / fs.size * fs.size + j % fs.size = j := by rw [Nat.mul_comm]; exact Nat.div_add_mod j fs.size
      have hdiv : j / fs.size < l := (Nat.div_lt_iff_lt_mul hs).2 hj
      have hz1 : zss[j / fs.size]? = some (zss[j / fs.size]'(by omega)) := List.getElem?_eq_getElem (by omega)
      have h1 := hz _ _ hz1
      have hmod := Nat.mod_lt j hs
      have h2 : (zss[j / fs.size]'(by omega))[j % fs.size]? = some ((zss[j / fs.size]'(by omega))[j % fs.size]'(by have := h1.1; omega)) := List.getElem?_eq_getElem _
      have h3 := (h1.2 _ _ h2).1
      rw [add_off, e] at h3
      rw [hz1, h3, Option.bind_some, List.getElem?_map, h2]
      rfl
end
theorem fl3 {w : World} {A : Option Addr} {n : Nat} {zss : List (List Int)} (hl : zss.length = n) (h : ∀ zs ∈ zss, zs.length = 3 ∧ ∀ z ∈ zs, (Lit.int .i64 z).wf = true) (hr : Rd w 3 A n (zss.flatMap fun zs => zs.map (Value.int .i64))) :
    ∃ xs, FL c3 3 w A n xs ∧ ∀ x ∈ xs, w3 x := by
  have hc : ∀ zs ∈ zss, c3 (zs.getD 0 0, zs.getD 1 0, zs.getD 2 0) = zs.map (Value.int .i64) := fun zs hzs => by
    obtain ⟨h1, _⟩ := h zs hzs
    match zs, h1 with
    | [a, b, c], _ => rfl
  refine ⟨zss.map fun zs => (zs.getD 0 0, zs.getD 1 0, zs.getD 2 0), ⟨by simp [hl], ?_⟩, fun x hx => ?_⟩
  · have e : (zss.map fun zs => (zs.getD 0 0, zs.getD 1 0, zs.getD 2 0)).flatMap c3 = zss.flatMap fun zs => zs.map (Value.int .i64) := by
      rw [List.flatMap_map]
      clear hr h hl
      induction zss with
      | nil => rfl
      | cons z zss ih => rw [List.flatMap_cons, List.flatMap_cons, hc z (List.mem_cons_self ..), ih fun zs hzs => hc zs (List.mem_cons_of_mem _ hzs)]
    rw [e]; exact hr
  · obtain ⟨zs, hzs, rfl⟩ := List.mem_map.1 hx
    obtain ⟨h1, h2⟩ := h zs hzs
    match zs, h1, h2 with
    | [a, b, c], _, h2 => exact ⟨wf_i64 (h2 a (by simp)), wf_i64 (h2 b (by simp)), wf_i64 (h2 c (by simp))⟩
end Go.Proofs.Ythdfkiaoahpjpaa
/-
  Opening a law's arguments: fields of structs, by what they read as.
-/
namespace Go.Proofs.Ythdfkiaoahpjpaa
open Go.ChangeShapes Go.WideShapes Go.ChangeAt Go.RowKit Go.Joins Go.Deep
set_option linter.unusedVariables false
set_option linter.unusedSimpArgs false
section
variable {H : Type} {enc : TypeId × Value → H} {P : Program} {w : World} {base : Nat} {spare : Nat → Bool} {held : Bool}
theorem kInts {t e : TypeId} {m : Nat} {v : Value} {y : DataW H × List MemPlace} (ht : P.underlying t = some (.slice e)) (he : P.underlying e = some (.int .i64)) (hc : P.cellsOf e = 1)
    (h : DataW.trod enc P w base spare held m t [v] = some y) : ∃ xs, (cints xs).rd w v ∧ ∀ z ∈ xs, i64w z := by
  rcases open_ints ht he hc h with ⟨hcs, _⟩ | ⟨a, l, c, zs, hcs, _, hl, hm, hz, _, hcell, hwz⟩
  · simp at hcs
    exact ⟨[], by rw [hcs]; exact cints_mk (Ints.nil w none) (Nat.le_refl _) (by simp), by simp⟩
  · simp at hcs
    have hlz : l ≤ zs.length := by rw [hz]; split <;> omega
    refine ⟨zs.take l, ?_, fun z hz' => wf_i64 (hwz z (List.mem_of_mem_take hz'))⟩
    rw [hcs]
    refine cints_mk ⟨by simp; omega, fun hp => ?_⟩ hl hm
    obtain ⟨b, o, s⟩ := a
    have h0 := hcell 0 (by omega)
    have hs : s = none := by simpa [Addr.add] using World.cell?_spot h0
    subst hs
    refine ⟨b, o, rfl, World.block_lt_of_cell? w _ h0, fun j hj => ?_⟩
    have hj' := hcell j (by omega)
    rw [add_off] at hj'
    rw [hj', List.getElem?_map, List.getElem?_take, if_pos (by omega), List.getElem?_eq_getElem (show j < zs.length by omega)]
    simp [List.getD_eq_getElem?_getD, List.getElem?_eq_getElem (show j < zs.length by omega)]
theorem tSC {t e : TypeId} {m : Nat} {v : Value} {y : DataW H × List MemPlace} (ht : P.underlying t = some (.slice e)) (he : P.underlying e = some (.int .i64)) (hc : P.cellsOf e = 1)
    (h : DataW.trod enc P w base spare held m t [v] = some y) : ∃ A n c zs, v = .slice A n c ∧ IntsK .i64 w A n zs ∧ n ≤ c ∧ c ≤ maxLen := by
  rcases open_ints ht he hc h with ⟨hcs, _⟩ | ⟨a, l, c, zs, hcs, _, hl, hm, hz, _, hcell, hwz⟩
  · simp at hcs
    exact ⟨none, 0, 0, [], hcs, ⟨⟨by simp, fun h => absurd h (by omega)⟩, by simp⟩, Nat.le_refl _, by simp⟩
  · simp at hcs
    have hlz : l ≤ zs.length := by rw [hz]; split <;> omega
    refine ⟨some a, l, c, zs.take l, hcs, ⟨⟨by simp; omega, fun hp => ?_⟩, fun z hz' => hwz z (List.mem_of_mem_take hz')⟩, hl, hm⟩
    obtain ⟨b, o, s⟩ := a
    have h0 := hcell 0 (by omega)
    have hs : s = none := by simpa [Addr.add] using World.cell?_spot h0
    subst hs
    refine ⟨b, o, rfl, World.block_lt_of_cell? w _ h0, fun j hj => ?_⟩
    have hj' := hcell j (by omega)
    rw [add_off] at hj'
    rw [hj', List.getElem?_map, List.getElem?_take, if_pos (by omega), List.getElem?_eq_getElem (show j < zs.length by omega)]
    simp [List.getD_eq_getElem?_getD, List.getElem?_eq_getElem (show j < zs.length by omega)]
theorem kSt3 {t e E : TypeId} {fs : Array Field} {m : Nat} {v : Value} {y : DataW H × List MemPlace} (ht : P.underlying t = some (.slice e)) (he : P.underlying e = some (.struct fs))
    (hone : oneCellFields P fs = true) (hC : P.cellsOf e = fs.size) (hint : ∀ (j : Nat) (f : Field), fs[j]? = some f → P.underlying f.type = some (.int .i64)) (hs : fs.size = 3)
    (h : DataW.trod enc P w base spare held m t [v] = some y) : ∃ xs, (plst E 3 c3 xs).rd w v ∧ ∀ x ∈ xs, w3 x := by
  obtain ⟨A, n, c, zss, rfl, h1, h2, h3, h4, h5⟩ := tSK ht he hone hC hint (by omega) h
  rw [hs] at h4 h5
  obtain ⟨xs, q1, q2⟩ := fl3 h3 h4 h5
  exact ⟨xs, plst_mk c3_len c3_one q1 h1 h2, q2⟩
end
end Go.Proofs.Ythdfkiaoahpjpaa
