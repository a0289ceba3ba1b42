/-
  l28Copy of the reference.
-/
import Derived.Test.YthaadgdeadbhkaaMgFnCosts32
import Derived.Test.YthaadgdeadbhkaaMgFnCosts22
namespace Go.Proofs.Ythaadgdeadbhkaa
open Go.RowKit
set_option linter.unusedVariables false
set_option linter.unusedSimpArgs false
def blks : Value → List Nat
  | .agg vs => vs.toList.flatMap fun u => u.ownBlock.toList
  | v => v.ownBlock.toList
def apB (v u : Value) : Prop := ∀ g ∈ blks v, g ∉ blks u
def keyO (lo : Nat) (k : KM) (v : Value) (w : World) : Prop := ∃ A c, v = .agg #[.int .i64 k.p, .slice A k.al.length c] ∧ w.ownsRow lo 3 1 (.slice A k.al.length c) k.al.length (k.al.map (Value.int .i64))
def arO (lo : Nat) (m : AM) (v : Value) (w : World) : Prop := ∃ A c B d, v = .agg #[.int .i64 m.p, .slice A m.st.length c, .slice B m.outs.length d] ∧ w.ownsRow lo 95 3 (.slice A m.st.length c) m.st.length (m.st.flatMap c3) ∧ w.ownsRow lo 3 1 (.slice B m.outs.length d) m.outs.length (m.outs.map (Value.int .i64))
theorem keyO_st {lo : Nat} {k : KM} : stable (keyO lo k) := fun v w w' ⟨A, c, h1, h2⟩ hg => ⟨A, c, h1, own_grow h2 hg⟩
theorem arO_st {lo : Nat} {m : AM} : stable (arO lo m) := fun v w w' ⟨A, c, B, d, h1, h2, h3⟩ hg => ⟨A, c, B, d, h1, own_grow h2 hg, own_grow h3 hg⟩
theorem row1_st' {lo n : Nat} {L : List Int} : stable (row1 lo n L) := fun v w w' h hg => h.grow hg
theorem keyO.of {lo : Nat} {k : KM} {v : Value} {w : World} (h : aggF lo (ckeys k) v w) : keyO lo k v w := by
  obtain ⟨F, h1, h2⟩ := h
  obtain ⟨u1, F1, rfl, rfl, o1⟩ := ckeys_oopen h1
  obtain ⟨A, c, rfl, rfl, hr⟩ := cints_row o1
  exact ⟨A, c, rfl, hr lo (fun g hg => h2 g (by simpa using hg))⟩
theorem arO.of {lo : Nat} {m : AM} {v : Value} {w : World} (h : aggF lo (carith m) v w) : arO lo m v w := by
  obtain ⟨F, h1, h2⟩ := h
  obtain ⟨u1, u2, F1, F2, rfl, rfl, o1, o2, d⟩ := carith_oopen h1
  obtain ⟨A, c, rfl, rfl, hr⟩ := plst_row (s := 3) (fun _ => rfl) (by omega) o1
  obtain ⟨B, e, rfl, rfl, hs⟩ := cints_row o2
  exact ⟨A, c, B, e, rfl, hr lo (fun g hg => h2 g (by simp [hg])), hs lo (fun g hg => h2 g (by simp [hg]))⟩
theorem keyO.typ {lo : Nat} {k : KM} {v : Value} {w w' : World} {S : Nat → Prop} (h : keyO lo k v w) (q : Chg S w w') (hS : ∀ g, S g → g < w.heap.size → ∃ T us, Blk w g T us ∧ T ≠ 3) : keyO lo k v w' := by
  obtain ⟨A, c, e, h1⟩ := h
  exact ⟨A, c, e, own_typ h1 q hS⟩
theorem arO.typ {lo : Nat} {m : AM} {v : Value} {w w' : World} {S : Nat → Prop} (h : arO lo m v w) (q : Chg S w w') (hS : ∀ g, S g → g < w.heap.size → ∃ T us, Blk w g T us ∧ T ≠ 3 ∧ T ≠ 95) : arO lo m v w' := by
  obtain ⟨A, c, B, d, e, h1, h2⟩ := h
  refine ⟨A, c, B, d, e, own_typ h1 q (fun g a b => ?_), own_typ h2 q (fun g a b => ?_)⟩
  · obtain ⟨T, us, hB, _, h4⟩ := hS g a b; exact ⟨T, us, hB, h4⟩
  · obtain ⟨T, us, hB, h3, _⟩ := hS g a b; exact ⟨T, us, hB, h3⟩
theorem blks_agg2 (x : Int) (A : Option Addr) (n c : Nat) : blks (.agg #[.int .i64 x, .slice A n c]) = (Value.slice A n c).ownBlock.toList := by simp [blks, Value.ownBlock]
theorem blks_agg3 (x : Int) (A B : Option Addr) (n c m d : Nat) : blks (.agg #[.int .i64 x, .slice A n c, .slice B m d]) = (Value.slice A n c).ownBlock.toList ++ (Value.slice B m d).ownBlock.toList := by simp [blks, Value.ownBlock]
theorem blks_sl (A : Option Addr) (n c : Nat) : blks (.slice A n c) = (Value.slice A n c).ownBlock.toList := rfl
theorem keyO.blks {lo : Nat} {k : KM} {v : Value} {w : World} (h : keyO lo k v w) : ∀ g ∈ blks v, lo ≤ g ∧ g < w.heap.size := by
  obtain ⟨A, c, rfl, h1⟩ := h
  rw [blks_agg2]
  intro g hg
  exact h1.lt g (by simpa using hg)
theorem arO.blks {lo : Nat} {m : AM} {v : Value} {w : World} (h : arO lo m v w) : ∀ g ∈ blks v, lo ≤ g ∧ g < w.heap.size := by
  obtain ⟨A, c, B, d, rfl, h1, h2⟩ := h
  rw [blks_agg3]
  intro g hg
  rcases List.mem_append.1 hg with hg | hg
  · exact h1.lt g (by simpa using hg)
  · exact h2.lt g (by simpa using hg)
theorem row1.blks {lo n : Nat} {L : List Int} {v : Value} {w : World} (h : row1 lo n L v w) : ∀ g ∈ blks v, lo ≤ g ∧ g < w.heap.size := by
  obtain ⟨A, c, rfl, h1⟩ := h
  rw [blks_sl]
  intro g hg
  exact h1.lt g (by simpa using hg)
theorem emptyS.blks {lo : Nat} {v : Value} {w : World} (h : emptyS lo v w) : ∀ g ∈ blks v, lo ≤ g ∧ g < w.heap.size := by
  obtain ⟨g', rfl, hl, hB, _⟩ := h
  rw [blks_sl]
  intro g hg
  have := hB.lt
  simp [Value.ownBlock] at hg
  omega
theorem blks_sl' {v : Value} (g n c : Nat) : apB v (.slice (some ⟨g, 0, none⟩) n c) = ∀ y ∈ blks v, y ∉ [g] := by
  unfold apB; rw [blks_sl]; rfl
theorem blk_ne9 {w : World} {g h : Nat} {T U : TypeId} {cs ds : Array Value} (B : Blk w g T cs) (D : Blk w h U ds) (hT : T ≠ U) : g ≠ h := by
  intro e
  subst e
  unfold Blk at B D
  rw [B] at D
  injection D with D
  injection D with _ h2 _
  exact hT h2
theorem aggF.far9 {lo g : Nat} {m : EM} {v : Value} {w w' : World} {T : TypeId} {cs : Array Value} (h : aggF lo (cengine m) v w) (B : Blk w g T cs) (k : Chg (fun y => y = g) w w') (hT : T ∉ [3, 95, 44]) : aggF lo (cengine m) v w' := by
  obtain ⟨F, h1, h2⟩ := h
  have hg := agg_ty (cengine_ty m) h1 B hT
  exact ⟨F, h1.chg k (fun x hx e => hg (e ▸ hx)), h2⟩
theorem apB_up {v u : Value} {n : Nat} (h : ∀ g ∈ blks v, n ≤ g) (k : ∀ g ∈ blks u, g < n) : apB v u := fun g h1 h2 => by
  have := h g h1; have := k g h2; omega
theorem apB_dn {v u : Value} {n : Nat} (h : ∀ g ∈ blks v, g < n) (k : ∀ g ∈ blks u, n ≤ g) : apB v u := fun g h1 h2 => by
  have := h g h1; have := k g h2; omega
theorem eng_own {lo : Nat} {m : EM} {w : World} {x y z : Value} (h1 : keyO lo m.k x w) (h2 : arO lo m.c y w) (h3 : row1 lo m.op.length m.op z w) (a1 : apB x y) (a2 : apB x z) (a3 : apB y z) :
    ∃ A c B d C e E i, x = .agg #[.int .i64 m.k.p, .slice A m.k.al.length c] ∧ y = .agg #[.int .i64 m.c.p, .slice B m.c.st.length d, .slice C m.c.outs.length e] ∧ z = .slice E m.op.length i ∧
      aggF lo (cengine m.noV) (.agg #[.int .i64 m.k.p, .slice A m.k.al.length c, .int .i64 m.c.p, .slice B m.c.st.length d, .slice C m.c.outs.length e, .slice none 0 0, .slice E m.op.length i, .int .i64 m.rd, .bool m.bad]) w := by
  obtain ⟨A, c, rfl, o1⟩ := h1
  obtain ⟨B, d, C, e, rfl, o2, o3⟩ := h2
  obtain ⟨E, i, rfl, o4⟩ := h3
  refine ⟨A, c, B, d, C, e, E, i, rfl, rfl, rfl, ?_⟩
  unfold apB at a1 a2 a3
  rw [blks_agg2] at a1 a2
  rw [blks_agg3] at a1 a3
  rw [blks_sl] at a2 a3
  have p1 := cints_own o1
  have p2 := plst_own (f := c3) (xs := m.c.st) (s := 3) (fun _ => rfl) (by omega) c3_one o2
  have p3 := cints_own o3
  have p4 := cints_own o4
  refine ⟨_, ⟨_, _, rfl, OwnAll.cons (ci_own _ _) (OwnAll.cons p1 (OwnAll.cons (ci_own _ _) (OwnAll.cons p2 (OwnAll.cons p3 (OwnAll.cons (cauths_nil w) (OwnAll.cons p4 (OwnAll.cons (ci_own _ _) (OwnAll.cons (cb_own _ _) (OwnAll.nil _) (by simp)) (by simp)) (by simp)) (by simp)) (fun g hg => by simpa using fun h => a3 g (List.mem_append_right _ hg) (by simpa using h))) (fun g hg => ?_)) (by simp)) (fun g hg => ?_)) (by simp), rfl⟩, fun g hg => ?_⟩
  · have h5 := a3 g (List.mem_append_left _ hg)
    have h6 := a1
    simp only [List.flatten_cons, List.flatten_nil, List.append_nil, List.nil_append, List.mem_append, not_or]
    refine ⟨fun h => ?_, h5⟩
    obtain ⟨c1, T1, z1, e1, t1⟩ := tyd_plst (Ts := [95]) (by simp) w _ _ p2 g hg
    obtain ⟨c2, T2, z2, e2, t2⟩ := tyd_plst (Ts := [3]) (by simp) w _ _ p3 g h
    rw [e1] at e2
    injection e2 with e2
    injection e2 with _ e3 _
    simp at t1 t2
    rw [t1, t2] at e3
    exact absurd e3 (by decide)
  · simp only [List.flatten_cons, List.flatten_nil, List.append_nil, List.nil_append, List.mem_append, not_or]
    have h5 := a1 g hg
    rw [List.mem_append, not_or] at h5
    exact ⟨h5.1, h5.2, a2 g hg⟩
  · simp only [List.flatten_cons, List.flatten_nil, List.append_nil, List.nil_append, List.mem_append] at hg
    rcases hg with hg | hg | hg | hg
    · exact (o1.lt g (by simpa using hg)).1
    · exact (o2.lt g (by simpa using hg)).1
    · exact (o3.lt g (by simpa using hg)).1
    · exact (o4.lt g (by simpa using hg)).1
end Go.Proofs.Ythaadgdeadbhkaa
