/-
  Opening a law's arguments: fields of structs, by what they read as.
-/
import Derived.Test.YthdfkiaoahpjpaaMgFnExactCheckCopies44
import Derived.Test.YthdfkiaoahpjpaaMgFnExactCheckCopies42
namespace Go.Proofs.Ythdfkiaoahpjpaa
open Go.ChangeShapes Go.WideShapes Go.ChangeAt Go.RowKit Go.Joins Go.Deep
set_option linter.unusedVariables false
set_option linter.unusedSimpArgs false
section
variable {H : Type} {enc : TypeId × Value → H} {P : Program} {w : World} {base : Nat} {spare : Nat → Bool} {held : Bool}
theorem kInts {t e : TypeId} {m : Nat} {v : Value} {y : DataW H × List MemPlace} (ht : P.underlying t = some (.slice e)) (he : P.underlying e = some (.int .i64)) (hc : P.cellsOf e = 1)
    (h : DataW.trod enc P w base spare held m t [v] = some y) : ∃ xs, (cints xs).rd w v ∧ ∀ z ∈ xs, i64w z := by
  rcases open_ints ht he hc h with ⟨hcs, _⟩ | ⟨a, l, c, zs, hcs, _, hl, hm, hz, _, hcell, hwz⟩
  · simp at hcs
    exact ⟨[], by rw [hcs]; exact cints_mk (Ints.nil w none) (Nat.le_refl _) (by simp), by simp⟩
  · simp at hcs
    have hlz : l ≤ zs.length := by rw [hz]; split <;> omega
    refine ⟨zs.take l, ?_, fun z hz' => wf_i64 (hwz z (List.mem_of_mem_take hz'))⟩
    rw [hcs]
    refine cints_mk ⟨by simp; omega, fun hp => ?_⟩ hl hm
    obtain ⟨b, o, s⟩ := a
    have h0 := hcell 0 (by omega)
    have hs : s = none := by simpa [Addr.add] using World.cell?_spot h0
    subst hs
    refine ⟨b, o, rfl, World.block_lt_of_cell? w _ h0, fun j hj => ?_⟩
    have hj' := hcell j (by omega)
    rw [add_off] at hj'
    rw [hj', List.getElem?_map, List.getElem?_take, if_pos (by omega), List.getElem?_eq_getElem (show j < zs.length by omega)]
    simp [List.getD_eq_getElem?_getD, List.getElem?_eq_getElem (show j < zs.length by omega)]
theorem tSC {t e : TypeId} {m : Nat} {v : Value} {y : DataW H × List MemPlace} (ht : P.underlying t = some (.slice e)) (he : P.underlying e = some (.int .i64)) (hc : P.cellsOf e = 1)
    (h : DataW.trod enc P w base spare held m t [v] = some y) : ∃ A n c zs, v = .slice A n c ∧ IntsK .i64 w A n zs ∧ n ≤ c ∧ c ≤ maxLen := by
  rcases open_ints ht he hc h with ⟨hcs, _⟩ | ⟨a, l, c, zs, hcs, _, hl, hm, hz, _, hcell, hwz⟩
  · simp at hcs
    exact ⟨none, 0, 0, [], hcs, ⟨⟨by simp, fun h => absurd h (by omega)⟩, by simp⟩, Nat.le_refl _, by simp⟩
  · simp at hcs
    have hlz : l ≤ zs.length := by rw [hz]; split <;> omega
    refine ⟨some a, l, c, zs.take l, hcs, ⟨⟨by simp; omega, fun hp => ?_⟩, fun z hz' => hwz z (List.mem_of_mem_take hz')⟩, hl, hm⟩
    obtain ⟨b, o, s⟩ := a
    have h0 := hcell 0 (by omega)
    have hs : s = none := by simpa [Addr.add] using World.cell?_spot h0
    subst hs
    refine ⟨b, o, rfl, World.block_lt_of_cell? w _ h0, fun j hj => ?_⟩
    have hj' := hcell j (by omega)
    rw [add_off] at hj'
    rw [hj', List.getElem?_map, List.getElem?_take, if_pos (by omega), List.getElem?_eq_getElem (show j < zs.length by omega)]
    simp [List.getD_eq_getElem?_getD, List.getElem?_eq_getElem (show j < zs.length by omega)]
theorem kSt3 {t e E : TypeId} {fs : Array Field} {m : Nat} {v : Value} {y : DataW H × List MemPlace} (ht : P.underlying t = some (.slice e)) (he : P.underlying e = some (.struct fs))
    (hone : oneCellFields P fs = true) (hC : P.cellsOf e = fs.size) (hint : ∀ (j : Nat) (f : Field), fs[j]? = some f → P.underlying f.type = some (.int .i64)) (hs : fs.size = 3)
    (h : DataW.trod enc P w base spare held m t [v] = some y) : ∃ xs, (plst E 3 c3 xs).rd w v ∧ ∀ x ∈ xs, w3 x := by
  obtain ⟨A, n, c, zss, rfl, h1, h2, h3, h4, h5⟩ := tSK ht he hone hC hint (by omega) h
  rw [hs] at h4 h5
  obtain ⟨xs, q1, q2⟩ := fl3 h3 h4 h5
  exact ⟨xs, plst_mk c3_len c3_one q1 h1 h2, q2⟩
end
end Go.Proofs.Ythdfkiaoahpjpaa
/-
  Opening a law's argument: a slice of Publics (structs of three slices), a slice of bools.
-/
namespace Go.Proofs.Ythdfkiaoahpjpaa
open Go.ChangeShapes Go.WideShapes Go.ChangeAt Go.RowKit Go.Joins Go.Deep
set_option linter.unusedVariables false
set_option linter.unusedSimpArgs false
section
variable {H : Type} {enc : TypeId × Value → H} {P : Program} {w : World} {base : Nat} {spare : Nat → Bool} {held : Bool}
abbrev Thr := { l : List Value // l.length = 3 }
theorem kPubs {t e ti : TypeId} {f0 f1 f2 : Field} {m : Nat} {v : Value} {y : DataW H × List MemPlace} (ht : P.underlying t = some (.slice e)) (he : P.underlying e = some (.struct #[f0, f1, f2]))
    (ho : (f0.offset == 0 && f1.offset == 1 && f2.offset == 2 && P.cellsOf f0.type == 1 && P.cellsOf f1.type == 1 && P.cellsOf f2.type == 1) = true) (hce : P.cellsOf e = 3)
    (h0 : P.underlying f0.type = some (.slice ti)) (h1 : P.underlying f1.type = some (.slice ti)) (h2 : P.underlying f2.type = some (.slice ti)) (hti : P.underlying ti = some (.int .i64)) (hci : P.cellsOf ti = 1)
    (h : DataW.trod enc P w base spare held m t [v] = some y) : ∃ xs : List PbM, (cpubs xs).rd w v := by
  simp only [Bool.and_eq_true, beq_iff_eq] at ho
  obtain ⟨⟨⟨⟨⟨a0, a1⟩, a2⟩, a3⟩, a4⟩, a5⟩ := ho
  rcases open_slice ht h with ⟨hcs, _⟩ | ⟨a, len, cap, mm, n, D, Pl, hcs, hb, hl, hm, hmm, hx, hi⟩
  · simp at hcs
    refine ⟨[], ?_⟩
    rw [hcs]
    exact lst_mk (s := 3) (vs := []) (fun _ => rfl) rfl (Nat.le_refl _) (by simp) (RdAll.nil w) ⟨rfl, fun h => absurd h (by omega)⟩
  · simp at hcs
    have hrow : ∀ i, i < len → ∃ vr : Thr × PbM, (∀ j, j < 3 → w.cell? ((a.add (i * 3)).add j) = vr.1.1[j]?) ∧ RdAll w (cpb vr.2) vr.1.1 := fun i hil => by
      obtain ⟨cs', hc', ht'⟩ := hi i (by rw [hmm]; split <;> omega)
      rw [hce] at hc'
      obtain ⟨_, hcl, hat⟩ := World.cells?_some hc'
      match cs', hcl with
      | [u0, u1, u2], _ =>
        obtain ⟨xs, n', _, _, _, hlen, hf⟩ := DataW.trod_struct he ht'
        match xs, hlen with
        | [y0, y1, y2], _ =>
          have g0 := hf 0 f0 rfl
          have g1 := hf 1 f1 rfl
          have g2 := hf 2 f2 rfl
          rw [a0, a3] at g0
          rw [a1, a4] at g1
          rw [a2, a5] at g2
          simp at g0 g1 g2
          obtain ⟨x0, p0, _⟩ := kInts h0 hti hci g0
          obtain ⟨x1, p1, _⟩ := kInts h1 hti hci g1
          obtain ⟨x2, p2, _⟩ := kInts h2 hti hci g2
          refine ⟨(⟨[u0, u1, u2], rfl⟩, ⟨x0, x1, x2⟩), fun j hj => ?_, ?_⟩
          · have := hat j hj
            rw [this]
          · exact RdAll.cons p0 (RdAll.cons p1 (RdAll.cons p2 (RdAll.nil w)))
    obtain ⟨vrs, hvl, hv⟩ := list_of _ len hrow
    have hF : ∀ x : Thr × PbM, x.1.1.length = 3 := fun x => x.1.2
    refine ⟨vrs.map (·.2), ?_⟩
    rw [hcs]
    have hlv : (vrs.flatMap fun x => x.1.1).length = vrs.length * 3 := flat_len (sz := 3) hF vrs
    have hlc : ((vrs.map (·.2)).flatMap cpb).length = vrs.length * 3 := by rw [flat_len (sz := 3) (fun _ => rfl), List.length_map]
    refine lst_mk (s := 3) (vs := vrs.flatMap fun x => x.1.1) (fun _ => rfl) (by simp [hvl]) hl hm ⟨by rw [hlv]; exact hlc.symm, fun i c u hc hu => ?_⟩ ⟨by rw [hlv, hvl], fun hp => ?_⟩
    · have hi2 : i < vrs.length * 3 := by rw [← hlc]; exact (List.getElem?_eq_some_iff.1 hc).1
      have hd : i / 3 < vrs.length := by omega
      have hvr : vrs[i / 3]? = some vrs[i / 3] := List.getElem?_eq_getElem hd
      obtain ⟨_, hrd⟩ := hv _ _ hvr
      rw [flat_get' (sz := 3) (fun _ => rfl) (by omega) (vrs.map (·.2)), List.getElem?_map, hvr] at hc
      rw [flat_get' (sz := 3) hF (by omega) vrs, hvr] at hu
      exact hrd.2 _ c u hc hu
    · obtain ⟨b, o, s⟩ := a
      have hv0 : vrs[0]? = some (vrs[0]'(by omega)) := List.getElem?_eq_getElem (by omega)
      have h0 := (hv 0 _ hv0).1 0 (by omega)
      have h00 : (vrs[0]'(by omega)).1.1[0]? = some ((vrs[0]'(by omega)).1.1[0]'(by rw [hF]; omega)) := List.getElem?_eq_getElem (by rw [hF]; omega)
      rw [h00] at h0
      have hs : s = none := by simpa [Addr.add] using World.cell?_spot h0
      subst hs
      rw [add_off, add_off] at h0
      refine ⟨b, o, rfl, World.block_lt_of_cell? w _ h0, fun j hj => ?_⟩
      have hd : j / 3 < vrs.length := by omega
      have hvr : vrs[j / 3]? = some vrs[j / 3] := List.getElem?_eq_getElem hd
      have p0 := (hv _ _ hvr).1 (j % 3) (by omega)
      rw [add_off, add_off] at p0
      rw [flat_get' (sz := 3) hF (by omega) vrs, hvr, show o + j = o + j / 3 * 3 + j % 3 by omega, p0]
      rfl
theorem kBools {t e : TypeId} {m : Nat} {v : Value} {y : DataW H × List MemPlace} (ht : P.underlying t = some (.slice e)) (he : P.underlying e = some .bool) (hce : P.cellsOf e = 1)
    (h : DataW.trod enc P w base spare held m t [v] = some y) : ∃ xs : List Bool, (cbools xs).rd w v := by
  rcases open_slice ht h with ⟨hcs, _⟩ | ⟨a, len, cap, mm, n, D, Pl, hcs, hb, hl, hm, hmm, hx, hi⟩
  · simp at hcs
    refine ⟨[], ?_⟩
    rw [hcs]
    exact cbools_mk ⟨by simp, fun h => absurd h (by omega)⟩ (Nat.le_refl _) (by simp)
  · simp at hcs
    have hrow : ∀ i, i < len → ∃ x : Bool, w.cell? (a.add i) = some (.bool x) := fun i hil => by
      obtain ⟨cs', hc', ht'⟩ := hi i (by rw [hmm]; split <;> omega)
      rw [hce] at hc'
      obtain ⟨_, hcl, hat⟩ := World.cells?_some hc'
      match cs', hcl with
      | [u0], _ =>
        obtain ⟨b, rfl⟩ := tB he ht'
        have h0 := hat 0 (by omega)
        refine ⟨b, ?_⟩
        rw [Nat.mul_one] at h0
        simpa [Addr.add] using h0
    obtain ⟨bs, hbl, hv⟩ := list_of _ len hrow
    refine ⟨bs, ?_⟩
    rw [hcs]
    refine cbools_mk ⟨by simp [hbl], fun hp => ?_⟩ hl hm
    obtain ⟨b, o, s⟩ := a
    have h0 := hv 0 (bs[0]'(by omega)) (List.getElem?_eq_getElem (by omega))
    have hs : s = none := by simpa [Addr.add] using World.cell?_spot h0
    subst hs
    rw [add_off] at h0
    refine ⟨b, o, rfl, World.block_lt_of_cell? w _ h0, fun j hj => ?_⟩
    have hj2 : j < bs.length := by omega
    have hjv := hv j bs[j] (List.getElem?_eq_getElem hj2)
    rw [add_off] at hjv
    rw [hjv, List.getElem?_map, List.getElem?_eq_getElem hj2]
    rfl
end
end Go.Proofs.Ythdfkiaoahpjpaa
