/-
  A Garbled of the call's own: its cells, pushes on its rows.
-/
import Derived.Test.YthdfkiaoahpjpaaMgFnCaught30
namespace Go.Proofs.Ythdfkiaoahpjpaa
open Go.RowKit
set_option linter.unusedVariables false
set_option linter.unusedSimpArgs false
def cgarb (d : Int) (zs ts : List Int) : List CS := [ci d, cints zs, cints ts]
section
variable {T : TypeId} {d : Int} {zs ts : List Int} {g lo n : Nat} {w : World}
theorem gar_d (h : sofF lo T (cgarb d zs ts) g w) : w.cell? ⟨g, 0, none⟩ = some (.int .i64 d) := by
  obtain ⟨F, h, _⟩ := h
  obtain ⟨u, Fi, h1, h2, h3, _⟩ := h.at_ (i := 0) (c := ci d) rfl
  first | rw [h1, h3.1] | rw [h1, h3.2.1] | rw [h1, ← h3.2.1]
theorem sofF.lt (h : sofF lo T (cgarb d zs ts) g w) : g < w.heap.size := by
  obtain ⟨F, h, _⟩ := h
  exact h.ltg
theorem gar_z (h : sofF lo T (cgarb d zs ts) g w) (hl : zs.length = n) (hg : lo ≤ g) :
    ∃ A c Fi, w.cell? ⟨g, 1, none⟩ = some (.slice A n c) ∧ Ints w A n zs ∧ (cints zs).own w Fi (.slice A n c) ∧
      (∀ (w' : World) A' n' c' F' xs, (cints xs).own w' F' (.slice A' n' c') → Chg (fun y => y ∈ Fi) w w' → (∀ y ∈ F', y ∈ Fi ∨ w.heap.size ≤ y) →
        w'.cell? ⟨g, 1, none⟩ = some (.slice A n c) ∧ w'.frozen? ⟨g, 1, none⟩ = false ∧ sofF lo T (cgarb d xs ts) g (w'.setCell ⟨g, 1, none⟩ (.slice A' n' c')) ∧
        (∀ W : World, W.heap.size ≤ lo → W.grownBy w none → W.grownBy (w'.setCell ⟨g, 1, none⟩ (.slice A' n' c')) none)) := by
  obtain ⟨F, h, hF⟩ := h
  have hlo : lo ≤ w.heap.size := by have := h.ltg; omega
  have hlt := h.ltg
  obtain ⟨u, Fi, h1, h2, h3, h4, h5, h6, _⟩ := h.at_ (i := 1) (c := cints zs) rfl
  obtain ⟨A, c, rfl, _, _, h7⟩ := cints_rd (CS.toRd _ h3)
  subst hl
  refine ⟨A, c, Fi, h1, h7, h3, fun w' A' n' c' F' xs ho hc hs => ?_⟩
  obtain ⟨F2, k1, k2⟩ := h6 w' (cints xs) _ F' hc ho hs
  refine ⟨hc.cell h1 hlt h5, hc.frozen h2 hlt h5, ⟨F2, k1, fun y hy => ?_⟩, fun W hW gW => ?_⟩
  · rcases k2 y hy with e | e
    · exact hF y e
    · omega
  · refine Chg.new (S := fun y => y ∈ Fi ∨ y = g) gW ((hc.mono fun y hy => .inl hy).trans ((chgS w' g 1 _).mono fun y hy => .inr hy)) fun y hy => ?_
    rcases hy with e | rfl
    · have := hF y (h4 y e); omega
    · omega
theorem gar_t (h : sofF lo T (cgarb d zs ts) g w) (hl : ts.length = n) (hg : lo ≤ g) :
    ∃ A c Fi, w.cell? ⟨g, 2, none⟩ = some (.slice A n c) ∧ Ints w A n ts ∧ (cints ts).own w Fi (.slice A n c) ∧
      (∀ (w' : World) A' n' c' F' xs, (cints xs).own w' F' (.slice A' n' c') → Chg (fun y => y ∈ Fi) w w' → (∀ y ∈ F', y ∈ Fi ∨ w.heap.size ≤ y) →
        w'.cell? ⟨g, 2, none⟩ = some (.slice A n c) ∧ w'.frozen? ⟨g, 2, none⟩ = false ∧ sofF lo T (cgarb d zs xs) g (w'.setCell ⟨g, 2, none⟩ (.slice A' n' c')) ∧
        (∀ W : World, W.heap.size ≤ lo → W.grownBy w none → W.grownBy (w'.setCell ⟨g, 2, none⟩ (.slice A' n' c')) none)) := by
  obtain ⟨F, h, hF⟩ := h
  have hlo : lo ≤ w.heap.size := by have := h.ltg; omega
  have hlt := h.ltg
  obtain ⟨u, Fi, h1, h2, h3, h4, h5, h6, _⟩ := h.at_ (i := 2) (c := cints ts) rfl
  obtain ⟨A, c, rfl, _, _, h7⟩ := cints_rd (CS.toRd _ h3)
  subst hl
  refine ⟨A, c, Fi, h1, h7, h3, fun w' A' n' c' F' xs ho hc hs => ?_⟩
  obtain ⟨F2, k1, k2⟩ := h6 w' (cints xs) _ F' hc ho hs
  refine ⟨hc.cell h1 hlt h5, hc.frozen h2 hlt h5, ⟨F2, k1, fun y hy => ?_⟩, fun W hW gW => ?_⟩
  · rcases k2 y hy with e | e
    · exact hF y e
    · omega
  · refine Chg.new (S := fun y => y ∈ Fi ∨ y = g) gW ((hc.mono fun y hy => .inl hy).trans ((chgS w' g 2 _).mono fun y hy => .inr hy)) fun y hy => ?_
    rcases hy with e | rfl
    · have := hF y (h4 y e); omega
    · omega
end
theorem gar_new (T : TypeId) (w : World) : sofF w.heap.size T (cgarb 0 [] []) w.heap.size (w.alloc (.cells #[.int .i64 0, .slice none 0 0, .slice none 0 0] T)) := by
  have o1 : ownF w.heap.size (cints []) (.slice none 0 0) w := ownF.ints (n := 0) (World.ownsRow_nil _ _ _ _)
  obtain ⟨F, h1, h2⟩ := (ownL.pl (x := .int .i64 0) (ownL.app o1.one (gbR w none) o1.one (Nat.le_refl _)) rfl).agg
  exact ⟨F, SOF.made (vs := [.int .i64 0, .slice none 0 0, .slice none 0 0]) (Blk.new w T _) (h1.grow (gbA (gbR _ _) _)) (fun hx => by have := h1.lt _ hx; omega), h2⟩
theorem gar_put {T : TypeId} {d : Int} {zs ts : List Int} {g lo : Nat} {w : World} (h : sofF lo T (cgarb d zs ts) g w) (hg : lo ≤ g) (z : Int) :
    w.cell? ⟨g, 0, none⟩ = some (.int .i64 d) ∧ w.frozen? ⟨g, 0, none⟩ = false ∧ sofF lo T (cgarb z zs ts) g (w.setCell ⟨g, 0, none⟩ (.int .i64 z)) ∧ (∀ W : World, W.heap.size ≤ lo → W.grownBy w none → W.grownBy (w.setCell ⟨g, 0, none⟩ (.int .i64 z)) none) := by
  have hd := gar_d h
  obtain ⟨F, h, hF⟩ := h
  have hlo : lo ≤ w.heap.size := by have := h.ltg; omega
  obtain ⟨u, Fi, h1, h2, _⟩ := h.at_ (i := 0) (c := ci d) rfl
  obtain ⟨F2, k1, k2⟩ := h.put (i := 0) (c := ci d) (c' := ci z) rfl (fun w => ci_own w z)
  refine ⟨hd, h2, ⟨F2, k1, fun y hy => ?_⟩, fun W hW gW => Chg.new gW (chgS w g 0 _) fun y hy => by omega⟩
  rcases k2 y hy with e | e
  · exact hF y e
  · omega
theorem gar_load {T : TypeId} {d : Int} {zs ts : List Int} {g lo : Nat} {w : World} (h : sofF lo T (cgarb d zs ts) g w) :
    ∃ A n c B q e F, w.cell? ⟨g, 0, none⟩ = some (.int .i64 d) ∧ w.cell? ⟨g, 1, none⟩ = some (.slice A n c) ∧ w.cell? ⟨g, 2, none⟩ = some (.slice B q e) ∧ AggO w (cgarb d zs ts) F (.agg #[.int .i64 d, .slice A n c, .slice B q e]) ∧ (∀ x ∈ F, lo ≤ x) := by
  have h0 := gar_d h
  obtain ⟨F, h, hF⟩ := h
  obtain ⟨u1, F1, h1, _, o1, _⟩ := h.at_ (i := 1) (c := cints zs) rfl
  obtain ⟨u2, F2, h2, _, o2, _⟩ := h.at_ (i := 2) (c := cints ts) rfl
  obtain ⟨A, c, rfl, _⟩ := cints_rd (CS.toRd _ o1)
  obtain ⟨B, e, rfl, _⟩ := cints_rd (CS.toRd _ o2)
  obtain ⟨vs, B0, ho⟩ := h.agg
  have hl := agg_len ho
  obtain ⟨v0, v1, v2, rfl⟩ : ∃ v0 v1 v2, vs = [v0, v1, v2] := by
    match vs, hl with
    | [a, b, c], _ => exact ⟨a, b, c, rfl⟩
  have e0 := B0.cell 0
  have e1 := B0.cell 1
  have e2 := B0.cell 2
  rw [h0] at e0
  rw [h1] at e1
  rw [h2] at e2
  simp at e0 e1 e2
  subst e0
  subst e1
  subst e2
  exact ⟨A, _, c, B, _, e, F, h0, h1, h2, ho, hF⟩
theorem stGarbled : St Try.prog 100 3 := ⟨⟨_, Try.underlying100, rfl⟩, by kernel_rfl⟩
theorem lab_get {zs : List Int} (h : ∀ x ∈ zs, labI x) (j : Nat) : ∃ x : Nat, zs.getD j 0 = (x : Int) ∧ x < 65536 := by
  have := lab_at h j
  unfold labI at this
  exact ⟨(zs.getD j 0).toNat, by omega, by omega⟩
theorem implInputZero_at (s n : Nat) (z : Int) (w : World) (hz : z = n) (hs : s < 4294967296) (hk : n ≤ 1000000) :
    Calls Try.prog 105 #[.agg #[.int .i64 s, .int .i64 0], .int .i64 z] w fun e w' => e = .returned (.int .i64 (inzN s n)) ∧ w.grownBy w' none := by
  subst hz
  exact implInputZero_yes s n w hs hk
theorem implHash_at (x n : Nat) (y z : Int) (w : World) (hy : y = x) (hz : z = n) (hx : x < 65536) (hn : n ≤ 1000000) :
    Calls Try.prog 106 #[.int .i64 y, .int .i64 z] w fun e w' => e = .returned (.int .i64 (hshN x n)) ∧ w = w' := by
  subst hy
  subst hz
  exact implHashLabel_yes x n w hx hn
theorem garT_same {s k : Nat} {gs : List Gat} {g : Gat} (hg : gs.getD k (0, 0, 0) = g) (h : g.1 ≠ 4) : garT s gs (k + 1) = garT s gs k := by
  rw [garT, tabN, hg, if_neg h, List.append_nil]
theorem garZ_next {s k : Nat} {gs : List Gat} {g : Gat} (hg : gs.getD k (0, 0, 0) = g) : garZ s gs (k + 1) = garZ s gs k ++ [((zeroN s (garZ s gs k) k g : Nat) : Int)] := by
  rw [← hg]
  rfl
section
variable {s n a b x y : Nat} {zs : List Int} {z : Int}
theorem zeroN_1 : zeroN s zs n (1, (a : Int), z) = inzN s a := by
  show (if (1 : Int) = 1 then inzN s (a : Int).toNat else _) = _
  rw [if_pos rfl, Int.toNat_natCast]
theorem zeroN_2 {z y : Int} : zeroN s zs n (2, y, z) = inzN s (1000 + n) := by
  show (if (2 : Int) = 1 then _ else if (2 : Int) = 2 then inzN s (1000 + n) else _) = _
  rw [if_neg (by decide), if_pos rfl]
theorem zeroN_3 (h1 : zs.getD a 0 = (x : Int)) (h2 : zs.getD b 0 = (y : Int)) : zeroN s zs n (3, (a : Int), (b : Int)) = x ^^^ y := by
  show (if (3 : Int) = 1 then _ else if (3 : Int) = 2 then _ else if (3 : Int) = 3 then (zs.getD (a : Int).toNat 0).toNat ^^^ (zs.getD (b : Int).toNat 0).toNat else _) = _
  rw [if_neg (by decide), if_neg (by decide), if_pos rfl, Int.toNat_natCast, Int.toNat_natCast, h1, h2, Int.toNat_natCast, Int.toNat_natCast]
theorem zeroN_5 (h1 : zs.getD a 0 = (x : Int)) : zeroN s zs n (5, (a : Int), z) = x ^^^ dltN s := by
  show (if (5 : Int) = 1 then _ else if (5 : Int) = 2 then _ else if (5 : Int) = 3 then _ else if (5 : Int) = 5 then (zs.getD (a : Int).toNat 0).toNat ^^^ dltN s else _) = _
  rw [if_neg (by decide), if_neg (by decide), if_neg (by decide), if_pos rfl, Int.toNat_natCast, h1, Int.toNat_natCast]
theorem zeroN_4 (h1 : zs.getD a 0 = (x : Int)) (h2 : zs.getD b 0 = (y : Int)) : zeroN s zs n (4, (a : Int), (b : Int)) = andZ (dltN s) n x y := by
  show (if (4 : Int) = 1 then _ else if (4 : Int) = 2 then _ else if (4 : Int) = 3 then _ else if (4 : Int) = 5 then _ else if (4 : Int) = 4 then andZ (dltN s) n (zs.getD (a : Int).toNat 0).toNat (zs.getD (b : Int).toNat 0).toNat else _) = _
  rw [if_neg (by decide), if_neg (by decide), if_neg (by decide), if_neg (by decide), if_pos rfl, Int.toNat_natCast, Int.toNat_natCast, h1, h2, Int.toNat_natCast, Int.toNat_natCast]
theorem tabN_4 (h1 : zs.getD a 0 = (x : Int)) (h2 : zs.getD b 0 = (y : Int)) : tabN s zs n (4, (a : Int), (b : Int)) = [(tabX (dltN s) n x y : Int), (tabY (dltN s) n x y : Int)] := by
  show (if (4 : Int) = 4 then [((tabX (dltN s) n (zs.getD (a : Int).toNat 0).toNat (zs.getD (b : Int).toNat 0).toNat : Nat) : Int), ((tabY (dltN s) n (zs.getD (a : Int).toNat 0).toNat (zs.getD (b : Int).toNat 0).toNat : Nat) : Int)] else []) = _
  rw [if_pos rfl, Int.toNat_natCast, Int.toNat_natCast, h1, h2, Int.toNat_natCast, Int.toNat_natCast]
end
end Go.Proofs.Ythdfkiaoahpjpaa
