/-
  Opening a law's argument: an engine by value (structs within a struct, a slice of structs that hold slices).
-/
import Derived.Test.YthaadgdeadbhkaaMgFnExactEngineOutputs45
import Derived.Test.YthaadgdeadbhkaaMgFnExactEngineOutputs35
namespace Go.Proofs.Ythaadgdeadbhkaa
open Go.ChangeShapes Go.WideShapes Go.ChangeAt Go.RowKit Go.Joins Go.Deep
set_option linter.unusedVariables false
set_option linter.unusedSimpArgs false
section
variable {H : Type} {enc : TypeId × Value → H} {P : Program} {w : World} {base : Nat} {spare : Nat → Bool} {held : Bool}
theorem cells2 {w : World} {base : Nat} {a : Addr} {cs : List Value} (h : w.cells? base a 2 = some cs) : ∃ u0 u1, cs = [u0, u1] ∧ w.cell? a = some u0 ∧ w.cell? (a.add 1) = some u1 := by
  obtain ⟨_, hcl, hat⟩ := World.cells?_some h
  match cs, hcl with
  | [u0, u1], _ =>
    have h0 := hat 0 (by omega)
    have h1 := hat 1 (by omega)
    simp at h0 h1
    exact ⟨u0, u1, rfl, by simpa [Addr.add] using h0, h1⟩
theorem kAuths {t e ti : TypeId} {f0 f1 : Field} {m : Nat} {v : Value} {y : DataW H × List MemPlace} (ht : P.underlying t = some (.slice e)) (he : P.underlying e = some (.struct #[f0, f1])) (ho : f0.offset = 0 ∧ f1.offset = 1 ∧ P.cellsOf f0.type = 1 ∧ P.cellsOf f1.type = 1) (hce : P.cellsOf e = 2)
    (h0 : P.underlying f0.type = some (.slice ti)) (h1 : P.underlying f1.type = some (.slice ti)) (hti : P.underlying ti = some (.int .i64)) (hci : P.cellsOf ti = 1)
    (h : DataW.trod enc P w base spare held m t [v] = some y) : ∃ xs : List AuM, (cauths xs).rd w v ∧ ∀ x ∈ xs, x.wf := by
  rcases open_slice ht h with ⟨hcs, _⟩ | ⟨a, len, cap, mm, n, D, Pl, hcs, hb, hl, hm, hmm, hx, hi⟩
  · simp at hcs
    refine ⟨[], ?_, by simp⟩
    rw [hcs]
    exact lst_mk (s := 2) (vs := []) (fun _ => rfl) rfl (Nat.le_refl _) (by simp) (RdAll.nil w) ⟨rfl, fun h => absurd h (by omega)⟩
  · simp at hcs
    have hrow : ∀ i, i < len → ∃ vr : (Value × Value) × AuM, w.cell? (a.add (i * 2)) = some vr.1.1 ∧ w.cell? ((a.add (i * 2)).add 1) = some vr.1.2 ∧ (cints vr.2.sh).rd w vr.1.1 ∧ (cints vr.2.mc).rd w vr.1.2 ∧ vr.2.wf := fun i hil => by
      obtain ⟨cs', hc', ht'⟩ := hi i (by rw [hmm]; split <;> omega)
      rw [hce] at hc'
      obtain ⟨u0, u1, rfl, q0, q1⟩ := cells2 hc'
      obtain ⟨xs, n', _, _, _, hlen, hf⟩ := DataW.trod_struct he ht'
      match xs, hlen with
      | [y0, y1], _ =>
        have g0 := hf 0 f0 rfl
        have g1 := hf 1 f1 rfl
        rw [ho.1, ho.2.2.1] at g0
        rw [ho.2.1, ho.2.2.2] at g1
        simp at g0 g1
        obtain ⟨z0, r0, w0⟩ := kInts h0 hti hci g0
        obtain ⟨z1, r1, w1⟩ := kInts h1 hti hci g1
        exact ⟨((u0, u1), ⟨z0, z1⟩), q0, q1, r0, r1, w0, w1⟩
    obtain ⟨vrs, hvl, hv⟩ := list_of _ len hrow
    refine ⟨vrs.map (·.2), ?_, fun r hr => ?_⟩
    · rw [hcs]
      have hfv : ∀ i (vr : (Value × Value) × AuM), vrs[i]? = some vr → (vrs.flatMap fun x => [x.1.1, x.1.2])[i * 2]? = some vr.1.1 ∧ (vrs.flatMap fun x => [x.1.1, x.1.2])[i * 2 + 1]? = some vr.1.2 := fun i vr hvr => by
        have e0 := flat_get (sz := 2) (F := fun x : (Value × Value) × AuM => [x.1.1, x.1.2]) (fun _ => rfl) vrs i 0 (by omega)
        have e1 := flat_get (sz := 2) (F := fun x : (Value × Value) × AuM => [x.1.1, x.1.2]) (fun _ => rfl) vrs i 1 (by omega)
        rw [hvr] at e0 e1
        exact ⟨e0, e1⟩
      have hlv : (vrs.flatMap fun x => [x.1.1, x.1.2]).length = vrs.length * 2 := flat_len (sz := 2) (fun _ => rfl) vrs
      have hlc : ((vrs.map (·.2)).flatMap cauth).length = vrs.length * 2 := by rw [flat_len (sz := 2) (fun _ => rfl), List.length_map]
      refine lst_mk (s := 2) (vs := vrs.flatMap fun x => [x.1.1, x.1.2]) (fun _ => rfl) (by simp [hvl]) hl hm ⟨by rw [hlv]; exact hlc.symm, fun i c u hc hu => ?_⟩ ⟨by rw [hlv, hvl], fun hp => ?_⟩
      · have hi2 : i < vrs.length * 2 := by rw [← hlc]; exact (List.getElem?_eq_some_iff.1 hc).1
        have hd : i / 2 < vrs.length := by omega
        have hvr : vrs[i / 2]? = some vrs[i / 2] := List.getElem?_eq_getElem hd
        obtain ⟨_, _, r0, r1, _⟩ := hv _ _ hvr
        obtain ⟨e0, e1⟩ := hfv _ _ hvr
        rw [flat_get' (sz := 2) (fun _ => rfl) (by omega) (vrs.map (·.2)), List.getElem?_map, hvr] at hc
        rcases Nat.lt_or_ge (i % 2) 1 with h6 | h6
        · have h7 : i % 2 = 0 := by omega
          rw [h7] at hc
          have h8 : i = i / 2 * 2 := by omega
          rw [h8] at hu
          rw [e0] at hu
          simp at hc
          injection hu with hu
          subst hu; subst hc
          exact r0
        · have h7 : i % 2 = 1 := by omega
          rw [h7] at hc
          have h8 : i = i / 2 * 2 + 1 := by omega
          rw [h8] at hu
          rw [e1] at hu
          simp at hc
          injection hu with hu
          subst hu; subst hc
          exact r1
      · obtain ⟨b, o, s⟩ := a
        have hv0 : vrs[0]? = some (vrs[0]'(by omega)) := List.getElem?_eq_getElem (by omega)
        have h0 := (hv 0 _ hv0).1
        have hs : s = none := by simpa [Addr.add] using World.cell?_spot h0
        subst hs
        rw [add_off] at h0
        refine ⟨b, o, rfl, World.block_lt_of_cell? w _ h0, fun j hj => ?_⟩
        have hd : j / 2 < vrs.length := by omega
        have hvr : vrs[j / 2]? = some vrs[j / 2] := List.getElem?_eq_getElem hd
        obtain ⟨p0, p1, _⟩ := hv _ _ hvr
        obtain ⟨e0, e1⟩ := hfv _ _ hvr
        rw [add_off] at p0 p1
        rw [add_off] at p1
        rcases Nat.lt_or_ge (j % 2) 1 with h6 | h6
        · have h8 : j = j / 2 * 2 := by omega
          rw [h8, p0, e0]
        · have h8 : j = j / 2 * 2 + 1 := by omega
          rw [h8, show o + (j / 2 * 2 + 1) = o + j / 2 * 2 + 1 by omega, p1, e1]
    · obtain ⟨vr, hvr, rfl⟩ := List.mem_map.1 hr
      obtain ⟨i, hi⟩ := List.mem_iff_getElem?.1 hvr
      exact (hv i vr hi).2.2.2.2
theorem array9_ {α : Type} {cs : Array α} (h : cs.size = 9) : ∃ c0 c1 c2 c3 c4 c5 c6 c7 c8, cs = #[c0, c1, c2, c3, c4, c5, c6, c7, c8] := by
  obtain ⟨l⟩ := cs
  match l, h with
  | [c0, c1, c2, c3, c4, c5, c6, c7, c8], _ => exact ⟨c0, c1, c2, c3, c4, c5, c6, c7, c8, rfl⟩
def lay9 (P : Program) (f0 f1 f2 f3 f4 f5 k0 k1 a0 a1 a2 : Field) : Bool :=
  [(f0, 0, 2), (f1, 2, 3), (f2, 5, 1), (f3, 6, 1), (f4, 7, 1), (f5, 8, 1), (k0, 0, 1), (k1, 1, 1), (a0, 0, 1), (a1, 1, 1), (a2, 2, 1)].all fun x => x.1.offset == x.2.1 && P.cellsOf x.1.type == x.2.2
theorem open_eng {r : Reach} {b0 : Nat} {t : TypeId} {f0 f1 f2 f3 f4 f5 k0 k1 a0 a1 a2 : Field} {v : Value} {d : DataW H} {p : List MemPlace} (hs : P.underlying t = some (.struct #[f0, f1, f2, f3, f4, f5])) (hk : P.underlying f0.type = some (.struct #[k0, k1])) (ha : P.underlying f1.type = some (.struct #[a0, a1, a2]))
    (hl : lay9 P f0 f1 f2 f3 f4 f5 k0 k1 a0 a1 a2 = true) (hC : P.cellsOf t = 9) (hv : Value.okWide P w r b0 t v) (h : DataW.Trod enc P w base spare held t v d p) :
    ∃ (c0 c1 c2 c3 c4 c5 c6 c7 c8 : Value) (n : Nat) (y0 y1 y2 y3 y4 y5 y6 y7 y8 : DataW H × List MemPlace), v = .agg #[c0, c1, c2, c3, c4, c5, c6, c7, c8] ∧ DataW.trod enc P w base spare held n k0.type [c0] = some y0 ∧ DataW.trod enc P w base spare held n k1.type [c1] = some y1 ∧ DataW.trod enc P w base spare held n a0.type [c2] = some y2 ∧ DataW.trod enc P w base spare held n a1.type [c3] = some y3 ∧ DataW.trod enc P w base spare held n a2.type [c4] = some y4 ∧
      DataW.trod enc P w base spare held (n + 1) f2.type [c5] = some y5 ∧ DataW.trod enc P w base spare held (n + 1) f3.type [c6] = some y6 ∧ DataW.trod enc P w base spare held (n + 1) f4.type [c7] = some y7 ∧ DataW.trod enc P w base spare held (n + 1) f5.type [c8] = some y8 := by
  obtain ⟨cs, rfl, hsz⟩ := okWide_struct hs hv
  obtain ⟨c0, c1, c2, c3, c4, c5, c6, c7, c8, rfl⟩ := array9_ (hsz.trans hC)
  obtain ⟨fuel, hf⟩ := h
  simp [lay9] at hl
  obtain ⟨⟨o0, s0⟩, ⟨o1, s1⟩, ⟨o2, s2⟩, ⟨o3, s3⟩, ⟨o4, s4⟩, ⟨o5, s5⟩, ⟨p0, q0⟩, ⟨p1, q1⟩, ⟨r0, t0⟩, ⟨r1, t1⟩, r2, t2⟩ := hl
  obtain ⟨xs, n, _, _, _, hlen, hg⟩ := DataW.trod_struct hs hf
  match xs, hlen with
  | [x0, x1, x2, x3, x4, x5], _ =>
    have g0 := hg 0 f0 rfl
    have g1 := hg 1 f1 rfl
    have g2 := hg 2 f2 rfl
    have g3 := hg 3 f3 rfl
    have g4 := hg 4 f4 rfl
    have g5 := hg 5 f5 rfl
    rw [o0, s0] at g0
    rw [o1, s1] at g1
    rw [o2, s2] at g2
    rw [o3, s3] at g3
    rw [o4, s4] at g4
    rw [o5, s5] at g5
    simp [Value.cells] at g0 g1 g2 g3 g4 g5
    obtain ⟨ks, n', rfl, _, _, hlk, hgk⟩ := DataW.trod_struct hk g0
    obtain ⟨ls, n'', e'', _, _, hla, hga⟩ := DataW.trod_struct ha g1
    obtain rfl : n' = n'' := by omega
    match ks, hlk, ls, hla with
    | [e0, e1], _, [e2, e3, e4], _ =>
      have b0 := hgk 0 k0 rfl
      have b1 := hgk 1 k1 rfl
      have b2 := hga 0 a0 rfl
      have b3 := hga 1 a1 rfl
      have b4 := hga 2 a2 rfl
      rw [p0, q0] at b0
      rw [p1, q1] at b1
      rw [r0, t0] at b2
      rw [r1, t1] at b3
      rw [r2, t2] at b4
      simp at b0 b1 b2 b3 b4
      exact ⟨c0, c1, c2, c3, c4, c5, c6, c7, c8, n', e0, e1, e2, e3, e4, x2, x3, x4, x5, rfl, b0, b1, b2, b3, b4, g2, g3, g4, g5⟩
end
end Go.Proofs.Ythaadgdeadbhkaa
