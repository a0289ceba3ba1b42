/-
  OramNew: reference and program.
-/
import Derived.Test.YthncoohkdmjcaaaMgFnMemory21
import Derived.Test.YthncoohkdmjcaaaMgFnMemory22
namespace Go.Proofs.Ythncoohkdmjcaaa
open Go.RowKit
set_option linter.unusedVariables false
set_option linter.unusedSimpArgs false
def newM (ls : List Int) : OM := if leavesB ls then ⟨List.replicate 15 [], [], ls⟩ else ⟨[], [], []⟩
theorem newM_yes {ls : List Int} (h : leavesB ls = true) : newM ls = ⟨List.replicate 15 [], [], ls⟩ := by simp [newM, h]
theorem newM_no {ls : List Int} (h : leavesB ls = false) : newM ls = ⟨[], [], []⟩ := by simp [newM, h]
theorem newM_sz (ls : List Int) : (newM ls).sz ≤ 27 := by
  cases h : leavesB ls with
  | false => rw [newM_no h]; simp [OM.sz, szB, sumL]
  | true => rw [newM_yes h]; have := (leavesB_is h).1; simp [OM.sz, szB, sumL, this]
theorem oramB_new (ls : List Int) : oramB ⟨List.replicate 15 [], [], ls⟩ = leavesB ls := by
  cases h : leavesB ls with
  | false => exact oramB_lv h
  | true =>
    obtain ⟨h1, h2⟩ := leavesB_is h
    have ha : OM.all ⟨List.replicate 15 [], [], ls⟩ = [] := by simp [OM.all]
    refine oramB_yes ⟨by simp, h1, h2, fun l hl => ?_, fun b hb => ?_, ?_, fun i l hl b hb => ?_⟩
    · rw [List.eq_of_mem_replicate hl]; simp
    · rw [ha] at hb; cases hb
    · rw [ha]; simp
    · have := List.eq_of_mem_replicate (List.mem_of_getElem? hl); subst this; cases hb
theorem own_ty {w : World} {b s n n' c g : Nat} {e : TypeId} {xs : List Value} (h : w.ownsRow b e s (.slice (some ⟨g, 0, none⟩) n c) n' xs) : ∃ cur, w.heap[g]? = some (.cells cur e (0, 0)) := by
  rcases h.2 with ⟨h1, _⟩ | ⟨g', cap, cur, hv, _, hg, _⟩
  · injection h1 with h1; cases h1
  · injection hv with e1; injection e1 with e1; injection e1 with e1; subst e1; exact ⟨cur, hg⟩
theorem own_ne_blk {w : World} {b s n n' c g g' : Nat} {e T : TypeId} {xs : List Value} {cs : Array Value} (h : w.ownsRow b e s (.slice (some ⟨g, 0, none⟩) n c) n' xs) (k : Blk w g' T cs) (hne : e ≠ T) : g ≠ g' := by
  intro e'; subst e'
  obtain ⟨cur, hc⟩ := own_ty h
  unfold Blk at k
  rw [hc] at k
  injection k with k; injection k with _ k; exact hne k
theorem own_ne_own {w : World} {b b' s s' n n' c m m' d g g' : Nat} {e T : TypeId} {xs ys : List Value} (h : w.ownsRow b e s (.slice (some ⟨g, 0, none⟩) n c) n' xs) (k : w.ownsRow b' T s' (.slice (some ⟨g', 0, none⟩) m d) m' ys) (hne : e ≠ T) : g ≠ g' := by
  intro e'; subst e'
  obtain ⟨cur, hc⟩ := own_ty h
  obtain ⟨cur', hc'⟩ := own_ty k
  rw [hc] at hc'
  injection hc' with k; injection k with _ k; exact hne k
def rowC (H n : Nat) (xs : List Value) (v : Value) (w : World) : Prop := ∃ A c, v = .slice A n c ∧ w.ownsRow H 3 1 v n xs
theorem rowC_st {H n : Nat} {xs : List Value} : stable (rowC H n xs) := fun v w w' h hg => by
  obtain ⟨A, c, e1, ho⟩ := h
  exact ⟨A, c, e1, own_grow ho hg⟩
/-- An Oram without a stash, of two slots. -/
def agF (a b c : Tmp) : Fact := ⟨[a, b, c], fun l _ => ∃ A n d A' n' d', l.getD 0 undef = .agg #[.slice A n d, .slice none 0 0, .slice A' n' d'] ∧ l.getD 1 undef = .slice A n d ∧ l.getD 2 undef = .slice A' n' d'⟩
theorem agF_st (a b c : Tmp) : stableF (agF a b c) := fun _ _ _ h _ => h
theorem agF_at (a b c : Tmp) (f : Tmp → Value) (w : World) : (agF a b c).at_ f w = (∃ A n d A' n' d', f a = .agg #[.slice A n d, .slice none 0 0, .slice A' n' d'] ∧ f b = .slice A n d ∧ f c = .slice A' n' d') := rfl
def stF (a : Tmp) (B : Nat) (T : TypeId) : Fact := ⟨[a], fun l w => ∃ cs, l.getD 0 undef = .agg cs ∧ Blk w B T cs⟩
theorem stF_st (a : Tmp) (B : Nat) (T : TypeId) : stableF (stF a B T) := fun _ _ _ ⟨cs, h1, h2⟩ hg => ⟨cs, h1, h2.grow hg⟩
theorem stF_at (a : Tmp) (B : Nat) (T : TypeId) (f : Tmp → Value) (w : World) : (stF a B T).at_ f w = (∃ cs, f a = .agg cs ∧ Blk w B T cs) := rfl
theorem own_set {w : World} {base n size g : Nat} {e : TypeId} {v : Value} {xs : List Value} (h : w.ownsRow base e size v n xs) (hg : g < base) (i : Nat) (u : Value) : (w.setCell ⟨g, i, none⟩ u).ownsRow base e size v n xs := by
  refine own_grown h (gbO (gbR w (some g)) u) (.inr fun e' => ?_)
  have := (h.lt g e').1
  omega
theorem rowF_off {H n g : Nat} {e : TypeId} {C : Nat → Prop} {xs : List Value} {v : Value} {w : World} (h : rowF H e n C xs v w) (hg : g < H) (i : Nat) (u : Value) : rowF H e n C xs v (w.setCell ⟨g, i, none⟩ u) := by
  obtain ⟨g', c, e1, hC, ho⟩ := h
  exact ⟨g', c, e1, hC, own_set ho hg i u⟩
theorem rowC_off {H n g : Nat} {xs : List Value} {v : Value} {w : World} (h : rowC H n xs v w) (hg : g < H) (i : Nat) (u : Value) : rowC H n xs v (w.setCell ⟨g, i, none⟩ u) := by
  obtain ⟨A, c, e1, ho⟩ := h
  exact ⟨A, c, e1, own_set ho hg i u⟩
/-- What a caller's slice reads as behind a change of a block that is new. -/
theorem rdChg {w w1 w4 : World} {A : Option Addr} {n B s : Nat} {zs : List Int} (h : Ints w A n zs) (hg : w.grownBy w1 none) (hc : Chg (fun b => ∃ s' : Nat, (s', b) ∈ [(s, B)]) w1.drew w4) (hl : w.heap.size ≤ w1.heap.size) (hB : w.heap.size = B) : Ints w4 A n zs := by
  refine Ints.grow h (Chg.new (gbD hg) hc fun i hi => ?_)
  obtain ⟨s', hs⟩ := hi
  simp at hs
  omega
def NewJ (ls : List Int) (w : World) (e : Ending) (w' : World) : Prop := ∃ V F, e = .returned (.tuple #[V, .bool (leavesB ls)]) ∧ AggO w' (coram (newM ls)) F V ∧ (∀ g ∈ F, w.heap.size ≤ g) ∧ w.grownBy w' none
theorem NewJ.no {ls : List Int} {w w' : World} (h : leavesB ls = false) (hg : w.grownBy w' none) : NewJ ls w (.returned (.tuple #[.agg #[.slice none 0 0, .slice none 0 0, .slice none 0 0], .bool false])) w' := by
  refine ⟨_, [[], [], []].flatten, by rw [h], ?_, ?_, hg⟩
  · rw [newM_no h]
    have h0 : (cblockss []).own w' [] (.slice none 0 0) := by
      refine ⟨0, [], [], by rw [cbs_flat]; simp, World.ownsRow_nil w' 0 _ 1, by rw [cbs_flat]; exact OwnAll.nil w', by simp [Value.ownBlock], by simp⟩
    have h2 : (cints []).own w' [] (.slice none 0 0) := by
      have := cints_own (xs := []) (World.ownsRow_nil w' 0 3 1)
      simpa [Value.ownBlock] using this
    exact coram_omk (m := ⟨[], [], []⟩) h0 (cblocks_nil w') h2 (by simp) (by simp) (by simp)
  · simp
theorem NewJ.yes {ls : List Int} {w w' : World} {g c' : Nat} {A : Option Addr} {c : Nat} (h : leavesB ls = true) (hg : w.grownBy w' none) (h0 : w'.ownsRow w.heap.size 34 1 (.slice (some ⟨g, 0, none⟩) 15 c') 15 (List.replicate 15 (.slice none 0 0)))
    (h2 : w'.ownsRow w.heap.size 3 1 (.slice A ls.length c) ls.length (ls.map (Value.int .i64))) : NewJ ls w (.returned (.tuple #[.agg #[.slice (some ⟨g, 0, none⟩) 15 c', .slice none 0 0, .slice A ls.length c], .bool true])) w' := by
  have hl := (leavesB_is h).1
  obtain ⟨g2, c2_, e2, _⟩ := own_form2 h2 (by omega)
  injection e2 with e2 _ _
  subst e2
  refine ⟨_, [[g], [], (Value.slice (some ⟨g2, 0, none⟩) ls.length c).ownBlock.toList].flatten, by rw [h], ?_, ?_, hg⟩
  · rw [newM_yes h]
    refine coram_omk (m := ⟨List.replicate 15 [], [], ls⟩) (cbs_made h0) (cblocks_nil w') (cints_own h2) (by simp) ?_ (by simp)
    intro x hx hx'
    simp at hx
    simp [Value.ownBlock] at hx'
    exact own_ne_own h0 h2 (by decide) (by omega)
  · intro x hx
    simp [Value.ownBlock] at hx
    rcases hx with rfl | rfl
    · exact (h0.lt _ rfl).1
    · exact (h2.lt _ rfl).1
set_option maxRecDepth 100000 in
set_option maxHeartbeats 2000000 in
theorem implOramNew_c (A : Option Addr) (n c : Nat) (ls : List Int) (w : World) (hx : Ints w A n ls) (hn : n ≤ 1048576) :
    Calls Try.prog 29 #[.slice A n c] w (NewJ ls w) := by
  have HX := Lib.hid hx
  have HL := Lib.hid hx.len
  clear hx
  have GA := Lib.hid (gbA (gbR w none) (.cells #[.slice none 0 0, .slice none 0 0, .slice none 0 0] 36))
  cases hb : leavesB ls with
  | false =>
    have HB := Lib.hid hb
    clear hb
    go_enter Try.func29, Try.ntmps29
    go_wp2_with fail
    refine (implareLeaves_c A n c ls _ (Ints.grow HX.out GA.out) (by omega)).mono ?_
    rintro e w1 ⟨rfl, hw⟩
    rw [HB.out]
    have B1 := Lib.hid (Blk.new w 36 #[.slice none 0 0, .slice none 0 0, .slice none 0 0])
    rw [hw] at B1 GA
    clear hw
    have b0 := B1.out.cell 0
    have b1 := B1.out.cell 1
    have b2 := B1.out.cell 2
    have f0 := B1.out.frozen 0
    have f1 := B1.out.frozen 1
    have f2 := B1.out.frozen 2
    simp at b0 b1 b2
    go_wp2_with fail
    exact ret_ct rfl rfl stOram (fill3 B1.out rfl _ _ _) rfl rfl (NewJ.no HB.out (gbS (p := ⟨w.heap.size, 2, none⟩) (gbS (p := ⟨w.heap.size, 1, none⟩) (gbS (p := ⟨w.heap.size, 0, none⟩) GA.out (Nat.le_refl _) _) (Nat.le_refl _) _) (Nat.le_refl _) _))
  | true =>
    have HB := Lib.hid hb
    clear hb
    go_enter Try.func29, Try.ntmps29
    go_wp2_with fail
    refine (implareLeaves_c A n c ls _ (Ints.grow HX.out GA.out) (by omega)).mono ?_
    rintro e w1 ⟨rfl, hw⟩
    rw [HB.out]
    have B1 := Lib.hid (Blk.new w 36 #[.slice none 0 0, .slice none 0 0, .slice none 0 0])
    rw [hw] at B1 GA
    clear hw
    have BL := Lib.hid B1.out.lt
    have WL := Lib.hid GA.out.size
    obtain ⟨B, hB⟩ : ∃ B, w.heap.size = B := ⟨_, rfl⟩
    rw [hB] at B1 BL ⊢
    have HBB := Lib.hid hB
    clear hB
    go_wp2_with fail
    refine region_reg4 [onT 8 (rowF w1.heap.size 34 15 (fun _ => True) (List.replicate 15 (.slice none 0 0))), onT 9 (isV (.slice A n c)), onT 10 (rowC w1.heap.size n (ls.map (Value.int .i64))), agF 11 8 10, stF 11 B 36, onT 3 (isV (.bool true))] [(4, B)] (by kernel_rfl) (by kernel_rfl) (by kernel_rfl) (by simp [stablesF, stableF_on, isV_st, rowF_st, rowC_st, agF_st, stF_st]) ?_ ?_
    · simp only [hops4, and_true]
      refine ⟨?_, ?_, ?_, ?_, ?_, ?_⟩
      rotate_left 4
      · intro f w4 hG pre hd
        have hb4 := pre B BL.out (by intro s hs; simp at hs; subst hs; simp)
        have B4 : Blk w4 B 36 #[.slice none 0 0, .slice none 0 0, .slice none 0 0] := hb4.trans B1.out
        simp [depsF, bindE, List.filter_cons, bd_data, bd_chain, bd_guard, bd_phase, bd_text, bd_gc, fAt, onT_at, agF_at, isV] at hd
        obtain ⟨⟨Ax, nx, dx, Ay, ny, dy, h11, _, _⟩, _⟩ := hd
        simp [puts, dsts, Act.put, h11]
        have b0 := B4.cell 0
        have b1 := B4.cell 1
        have b2 := B4.cell 2
        have f0 := B4.frozen 0
        have f1 := B4.frozen 1
        have f2 := B4.frozen 2
        simp at b0 b1 b2
        go_wp2_with fail
        refine ⟨rfl, ⟨.bool false, ⟨_, h11, fill3 B4 rfl _ _ _⟩⟩, Or.inr ⟨?_, ?_⟩⟩
        · exact ⟨rfl, rfl, rfl, by simp, fun b _ hb => by simp at hb; rw [Below.heap_setCell _ _ _ _ (by simpa using hb.2), Below.heap_setCell _ _ _ _ (by simpa using hb.2), Below.heap_setCell _ _ _ _ (by simpa using hb.2)]⟩
        · simp [keeps, onT_at, agF_at, isV]
          exact ⟨fun hk => rowF_off (rowF_off (rowF_off hk BL.out 0 _) BL.out 1 _) BL.out 2 _, fun hk => rowC_off (rowC_off (rowC_off hk BL.out 0 _) BL.out 1 _) BL.out 2 _⟩
      · intro f w4 hG pre hd
        simp [puts, dsts, Act.put]
        go_wp2_with fail
        exact ⟨_, rfl, by simp [fAt, onT_at, upd_some, isV], Or.inl (gbR _ _)⟩
      · intro f w4 hG pre hd
        have hs4 := hG.size
        simp [puts, dsts, Act.put]
        go_wp2_with (at_make; refine wp_makeN _ elBlockS rfl _ _ rfl 15 rfl rfl (by omega) (by unfold maxLen; omega) ?_; intro w5 hown5 hg5; rw [show (Value.slice none 0 0).cells = #[.slice none 0 0] from rfl, made_one] at hown5)
        exact ⟨_, rfl, ⟨_, _, rfl, trivial, own_base hown5 hs4⟩, Or.inl hg5⟩
      · intro f w4 hG pre hd
        simp [puts, dsts, Act.put]
        go_wp2_with fail
        exact ⟨_, rfl, by simp [fAt, onT_at, upd_some, isV], Or.inl (gbR _ _)⟩
      · intro f w4 hG pre hd
        simp [depsF, bindE, List.filter_cons, bd_data, bd_chain, bd_guard, bd_phase, bd_text, bd_gc, fAt, onT_at, agF_at, isV] at hd
        simp [puts, dsts, Act.put, hd]
        go_wp2_with (go_at_call 66; refine (ints_c A n c ls _ (rdChg HX.out GA.out hG WL.out HBB.out) (by omega)).mono ?_; rintro e w5 ⟨v5, rfl, o5, g5⟩)
        obtain ⟨A5, c5, rfl, _, _⟩ := own_form o5
        exact ⟨_, rfl, ⟨_, _, rfl, own_base o5 hG.size⟩, Or.inl g5⟩
      · intro f w4 hG pre hd
        simp [depsF, bindE, List.filter_cons, bd_data, bd_chain, bd_guard, bd_phase, bd_text, bd_gc, fAt, onT_at, agF_at, isV] at hd
        obtain ⟨⟨g8, c8, e8, _, _⟩, ⟨A10, c10, e10, _⟩⟩ := hd
        simp [puts, dsts, Act.put, e8, e10]
        go_wp2_with fail
        exact ⟨_, rfl, by simp [fAt, agF_at, upd_some, e8, e10], Or.inl (gbR _ _)⟩
    · intro f w4 hG hd
      simp [knowsF, onT_at, agF_at, stF_at, isV] at hd
      obtain ⟨⟨g8, c8, e8, _, o8⟩, e9, ⟨A10, c10, e10, o10⟩, ⟨Ax, nx, dx, Ay, ny, dy, e11, e8', e10'⟩, ⟨cs, e11', B4⟩, e3⟩ := hd
      rw [e8] at e8'
      rw [e10] at e10'
      injection e8' with x1 x2 x3
      injection e10' with x4 x5 x6
      subst x1 x2 x3 x4 x5 x6
      rw [e8] at o8
      rw [e10] at o10
      rw [e11] at e11'
      injection e11' with e11'
      subst e11'
      have G4 : w.grownBy w4 none := by
        refine Chg.new (gbD GA.out) hG fun i hi => ?_
        obtain ⟨s, hs⟩ := hi
        simp at hs
        have := HBB.out
        omega
      have HLn := HL.out
      subst HLn
      simp only [puts, dsts, Act.put, e8, e9, e10, e11, e3, List.filterMap_cons, List.filterMap_nil, List.setIfInBounds_toArray, List.set_cons_zero, List.set_cons_succ]
      clear e8 e9 e10 e11 e3
      go_wp2_with fail
      exact ret_ct rfl rfl stOram B4 rfl rfl (NewJ.yes HB.out G4 (own_base o8 (by have := WL.out; have := HBB.out; omega)) (own_base o10 (by have := WL.out; have := HBB.out; omega)))
theorem rowF_keep_ty {H H' : Nat} {e e' : TypeId} {n n' c' s' : Nat} {C : Nat → Prop} {xs ys : List Value} {v : Value} {w w' : World} {A' : Option Addr} (h : rowF H e n C xs v w) (k : w.ownsRow H' e' s' (.slice A' n' c') n' ys) (hne : e ≠ e') (hg : w.grownBy w' (Value.ownBlock (.slice A' n' c'))) : rowF H e n C xs v w' := by
  obtain ⟨g, c, e1, hC, ho⟩ := h
  refine ⟨g, c, e1, hC, ?_⟩
  subst e1
  cases A' with
  | none => exact own_grow ho hg
  | some a' =>
    obtain ⟨g', _, ev, _⟩ : ∃ g' c'', Value.slice (some a') n' c' = .slice (some ⟨g', 0, none⟩) n' c'' ∧ True := by
      rcases k.2 with ⟨h1, _⟩ | ⟨g', cap', cur, hv, _⟩
      · injection h1 with h1; cases h1
      · exact ⟨g', cap', hv, trivial⟩
    injection ev with e1 _ e3
    injection e1 with e1
    subst e1
    refine own_grown ho hg (.inr fun e => ?_)
    have : g = g' := by simpa [Value.ownBlock] using e
    exact own_ne_own ho k hne this
theorem room_keep_ty {H H' n n' c' s' : Nat} {T e' : TypeId} {ys : List Value} {v : Value} {w w' : World} {g' : Nat} (h : isRoom H T n v w) (k : w.ownsRow H' e' s' (.slice (some ⟨g', 0, none⟩) n' c') n' ys) (hne : e' ≠ T) (hg : w.grownBy w' (some g')) : isRoom H T n v w' := by
  obtain ⟨g, cs, e1, hlo, hB, hc⟩ := h
  exact ⟨g, cs, e1, hlo, hB.grown hg (fun e => by injection e with e; exact own_ne_blk k hB hne e.symm), hc⟩
theorem rowF_set_ty {H n g : Nat} {e T : TypeId} {C : Nat → Prop} {xs : List Value} {v : Value} {w : World} {cs : Array Value} (h : rowF H e n C xs v w) (hB : Blk w g T cs) (hne : e ≠ T) (i : Nat) (u : Value) : rowF H e n C xs v (w.setCell ⟨g, i, none⟩ u) := by
  obtain ⟨g', c, e1, hC, ho⟩ := h
  refine ⟨g', c, e1, hC, ?_⟩
  subst e1
  exact own_grown ho (gbO (gbR w (some g)) u) (.inr fun e' => own_ne_blk ho hB hne (by simpa [Value.ownBlock] using e'))
theorem rowC_set_ty {H n g : Nat} {T : TypeId} {xs : List Value} {v : Value} {w : World} {cs : Array Value} (h : rowC H n xs v w) (hB : Blk w g T cs) (hne : 3 ≠ T) (i : Nat) (u : Value) : rowC H n xs v (w.setCell ⟨g, i, none⟩ u) := by
  obtain ⟨A, c, e1, ho⟩ := h
  refine ⟨A, c, e1, ?_⟩
  subst e1
  rcases ho.2 with ⟨h1, _⟩ | ⟨g', cap', cur, hv, _⟩
  · exact own_grown ho (gbO (gbR w (some g)) u) (.inr fun e' => by injection h1 with h1; rw [h1] at e'; simp [Value.ownBlock] at e')
  · injection hv with e1 _ e3
    subst e1
    exact own_grown ho (gbO (gbR w (some g)) u) (.inr fun e' => own_ne_blk ho hB hne (by simpa [Value.ownBlock] using e'))
/-- The new memory in its block. -/
def ptF (a b H : Nat) (T : TypeId) : Fact := ⟨[a, b], fun l w => ∃ g cs, l.getD 0 undef = .pointer (some ⟨g, 0, none⟩) ∧ H ≤ g ∧ l.getD 1 undef = .agg cs ∧ Blk w g T cs⟩
theorem ptF_st (a b H : Nat) (T : TypeId) : stableF (ptF a b H T) := fun _ _ _ ⟨g, cs, h1, h2, h3, h4⟩ hg => ⟨g, cs, h1, h2, h3, h4.grow hg⟩
theorem ptF_at (a b H : Nat) (T : TypeId) (f : Tmp → Value) (w : World) : (ptF a b H T).at_ f w = (∃ g cs, f a = .pointer (some ⟨g, 0, none⟩) ∧ H ≤ g ∧ f b = .agg cs ∧ Blk w g T cs) := rfl
theorem pt_keep_ty {a b : Tmp} {H H' n' c' s' : Nat} {T e' : TypeId} {ys : List Value} {f : Tmp → Value} {w w' : World} {g' : Nat} (h : ∃ g cs, f a = .pointer (some ⟨g, 0, none⟩) ∧ H ≤ g ∧ f b = .agg cs ∧ Blk w g T cs) (k : w.ownsRow H' e' s' (.slice (some ⟨g', 0, none⟩) n' c') n' ys) (hne : e' ≠ T) (hg : w.grownBy w' (some g')) : ∃ g cs, f a = .pointer (some ⟨g, 0, none⟩) ∧ H ≤ g ∧ f b = .agg cs ∧ Blk w' g T cs := by
  obtain ⟨g, cs, e1, hlo, e2, hB⟩ := h
  exact ⟨g, cs, e1, hlo, e2, hB.grown hg (fun e => by injection e with e; exact own_ne_blk k hB hne e.symm)⟩
set_option maxRecDepth 100000 in
set_option maxHeartbeats 2000000 in
theorem specOramNew_c (A : Option Addr) (n c : Nat) (ls : List Int) (w : World) (hx : Ints w A n ls) (hn : n ≤ 1048576) :
    Calls Try.prog 27 #[.slice A n c] w (NewJ ls w) := by
  have HX := Lib.hid hx
  have HL := Lib.hid hx.len
  clear hx
  have GA := Lib.hid (gbA (gbR w none) (.cells #[.slice none 0 0, .slice none 0 0, .slice none 0 0] 36))
  have B1 := Lib.hid (Blk.new w 36 #[.slice none 0 0, .slice none 0 0, .slice none 0 0])
  go_enter Try.func27, Try.ntmps27
  go_wp2_with fail
  obtain ⟨w1, hw⟩ : ∃ w1, w.alloc (.cells #[.slice none 0 0, .slice none 0 0, .slice none 0 0] 36) = w1 := ⟨_, rfl⟩
  rw [hw] at B1 GA ⊢
  clear hw
  have BL := Lib.hid B1.out.lt
  have WL := Lib.hid GA.out.size
  obtain ⟨B, hB⟩ : ∃ B, w.heap.size = B := ⟨_, rfl⟩
  rw [hB] at B1 BL ⊢
  have HBB := Lib.hid hB
  clear hB
  refine region_reg4 [onT 5 (rowF w1.heap.size 34 15 (fun _ => True) (List.replicate 15 (.slice none 0 0))), onT 6 (rowF w1.heap.size 3 0 (· = 0) []), onT 7 (isV (.slice A n c)), onT 8 (rowC w1.heap.size n (ls.map (Value.int .i64))), agF 9 5 8, onT 4 (isRoom w1.heap.size 36 3), ptF 4 9 w1.heap.size 36] [] (by kernel_rfl) (by kernel_rfl) (by kernel_rfl) (by simp [stablesF, stableF_on, isV_st, rowF_st, rowC_st, agF_st, isRoom_st, ptF_st]) ?_ ?_
  · simp only [hops4, and_true]
    refine ⟨?_, ?_, ?_, ?_, ?_, ?_, ?_⟩
    · intro f w4 hG _ hd
      have hs4 := hG.size
      simp [puts, dsts, Act.put]
      go_wp2_with (at_make; refine wp_makeN _ elBlockS rfl _ _ rfl 15 rfl rfl (by omega) (by unfold maxLen; omega) ?_; intro w5 hown5 hg5; rw [show (Value.slice none 0 0).cells = #[.slice none 0 0] from rfl, made_one] at hown5)
      exact ⟨_, rfl, ⟨_, _, rfl, trivial, own_base hown5 hs4⟩, Or.inl hg5⟩
    · intro f w4 hG _ hd
      have hs4 := hG.size
      simp [puts, dsts, Act.put]
      go_wp2_with fail
      exact ⟨_, rfl, ⟨_, 0, rfl, rfl, World.ownsRow_made w4 #[] 0 hs4 (by simp) rfl⟩, Or.inl (gbA (gbR _ _) _)⟩
    · intro f w4 hG _ hd
      simp [puts, dsts, Act.put]
      go_wp2_with fail
      exact ⟨_, rfl, by simp [fAt, onT_at, upd_some, isV], Or.inl (gbR _ _)⟩
    · intro f w4 hG _ hd
      have hg4 := chgNil hG
      have hs4 := hg4.size
      try simp at hs4
      simp [depsF, bindE, List.filter_cons, bd_data, bd_chain, bd_guard, bd_phase, bd_text, bd_gc, fAt, onT_at, isV] at hd
      obtain ⟨⟨g0, cc, e0, hcc, o0⟩, h7⟩ := hd
      subst hcc
      rw [e0] at o0
      have R4 := Rd.grow (Rd.grow HX.out (gbD GA.out)) hg4
      simp [puts, dsts, Act.put, e0, h7]
      rcases Nat.eq_zero_or_pos n with h0 | h0
      · subst h0
        have hls : ls = [] := List.eq_nil_of_length_eq_zero HL.out
        subst hls
        cases A with
        | none =>
          go_wp2_with fail
          exact ⟨_, rfl, ⟨_, _, rfl, o0⟩, Or.inl (gbR _ _)⟩
        | some a =>
          go_wp2_with fail
          exact ⟨_, rfl, ⟨_, _, rfl, o0⟩, Or.inl (gbR _ _)⟩
      · refine wp_appendKR w4 el_int rfl (.tmp 6) (.tmp 7) rfl _ _ 0 [] o0 rfl A n c _ rfl R4 h0 (ints_one ls) (by unfold maxLen; omega) (by omega) hs4 ?_
        intro v' w5 o5 g5 k5
        obtain ⟨An, cn, rfl, _, _⟩ := own_form o5
        refine ⟨_, rfl, ⟨An, cn, by simp [upd_some, fAt, onT], by simpa [upd_some, fAt, onT] using o5⟩, Or.inr ⟨Chg.of g5 fun x hx => by have := (o0.lt x hx).1; first | exact this | exact .inl this, ?_⟩⟩
        simp [keeps, onT_at, agF_at, ptF_at, isV]
        exact ⟨fun hk => rowF_keep_ty hk o0 (by decide) g5, fun _ => ⟨g0, 0, e0, rfl, by rw [e0]; exact k5⟩, fun hk => room_keep_ty hk o0 (by decide) g5, fun g h1 h2 cs h3 h4 => by obtain ⟨g', cs', a, b, c, d⟩ := pt_keep_ty (f := f) (a := 4) (b := 9) (H := w1.heap.size + 0) (T := 36) ⟨g, cs, h1, h2, h3, h4⟩ o0 (by decide) g5; exact ⟨g', a, b, cs', c, d⟩⟩
    · intro f w4 hG _ hd
      simp [depsF, bindE, List.filter_cons, bd_data, bd_chain, bd_guard, bd_phase, bd_text, bd_gc, fAt, onT_at, agF_at, isV] at hd
      obtain ⟨⟨g8, c8, e8, _, _⟩, ⟨A10, c10, e10, _⟩⟩ := hd
      simp [puts, dsts, Act.put, e8, e10]
      go_wp2_with fail
      exact ⟨_, rfl, by simp [fAt, agF_at, upd_some, e8, e10], Or.inl (gbR _ _)⟩
    · intro f w4 hG _ hd
      have hs4 := hG.size
      simp [puts, dsts, Act.put]
      go_wp2_with fail
      exact ⟨_, rfl, room_new hs4 rfl, Or.inl (gbA (gbR _ _) _)⟩
    · intro f w4 hG _ hd
      simp [depsF, bindE, List.filter_cons, bd_data, bd_chain, bd_guard, bd_phase, bd_text, bd_gc, fAt, onT_at, agF_at, isV] at hd
      obtain ⟨⟨g, cs, e4, hlo, hB, hsz⟩, ⟨Ax, nx, dx, Ay, ny, dy, h9, _, _⟩, _⟩ := hd
      simp [puts, dsts, Act.put, e4, h9]
      obtain ⟨u0, a0⟩ := room_cell hB hsz 0 (by omega)
      obtain ⟨u1, a1⟩ := room_cell hB hsz 1 (by omega)
      obtain ⟨u2, a2⟩ := room_cell hB hsz 2 (by omega)
      have b0 := hB.frozen 0
      have b1 := hB.frozen 1
      have b2 := hB.frozen 2
      go_wp2_with fail
      refine ⟨rfl, ⟨.bool false, ⟨g, _, e4, hlo, h9, fill3 hB hsz _ _ _⟩⟩, Or.inr ⟨?_, ?_⟩⟩
      · exact ⟨rfl, rfl, rfl, by simp, fun b _ hb => by simp at hb; have hbg : b ≠ g := (fun e => by omega); rw [Below.heap_setCell _ _ _ _ hbg, Below.heap_setCell _ _ _ _ hbg, Below.heap_setCell _ _ _ _ hbg]⟩
      · simp [keeps, onT_at, agF_at, ptF_at, isV]
        have hB1 := hB.set_ 0 (.slice Ax nx dx)
        have hB2 := hB1.set_ 1 (.slice none 0 0)
        exact ⟨fun hk => rowF_set_ty (rowF_set_ty (rowF_set_ty hk hB (by decide) 0 _) hB1 (by decide) 1 _) hB2 (by decide) 2 _, fun hk => rowF_set_ty (rowF_set_ty (rowF_set_ty hk hB (by decide) 0 _) hB1 (by decide) 1 _) hB2 (by decide) 2 _, fun hk => rowC_set_ty (rowC_set_ty (rowC_set_ty hk hB (by decide) 0 _) hB1 (by decide) 1 _) hB2 (by decide) 2 _, fun hk => room_set (room_set (room_set hk _ _ _) _ _ _) _ _ _⟩
  · intro f w4 hG hd
    have G4 := Lib.hid (gbT (gbD (gbR w1 none)) (chgNil hG))
    simp [knowsF, onT_at, agF_at, ptF_at, isV] at hd
    obtain ⟨⟨g5, c5, e5, _, o5⟩, ⟨g6, c6, e6, _, _⟩, e7, ⟨A8, c8, e8, o8⟩, ⟨Ax, nx, dx, Ay, ny, dy, e9, e5', e8'⟩, _, ⟨g, e4, hlo, cs, e9', hB⟩⟩ := hd
    rw [e5] at e5' o5
    rw [e8] at e8' o8
    injection e5' with x1 x2 x3
    injection e8' with x4 x5 x6
    subst x1 x2 x3 x4 x5 x6
    rw [e9] at e9'
    injection e9' with e9'
    subst e9'
    have HLn := HL.out
    subst HLn
    obtain ⟨n, hn'⟩ : ∃ n, ls.length = n := ⟨_, rfl⟩
    have HNN := Lib.hid hn'
    have O5 := Lib.hid o5
    have O8 := Lib.hid o8
    have HM : Hid (AggR w4 (coram ⟨List.replicate 15 [], [], ls⟩) (.agg #[.slice (some ⟨g5, 0, none⟩) 15 c5, .slice none 0 0, .slice A8 ls.length c8])) := coram_mk (m := ⟨List.replicate 15 [], [], ls⟩) (CS.toRd _ (cbs_made o5)) (CS.toRd _ (cblocks_nil w4)) (CS.toRd _ (cints_own o8))
    have HZ : Hid (OM.sz ⟨List.replicate 15 [], [], ls⟩ ≤ 2097152) := by simp [Hid, OM.sz, szB, sumL]; omega
    have BB := Lib.hid (B1.out.grow G4.out)
    have BG := Lib.hid hB
    have HNE : B ≠ g := by have := BL.out; omega
    simp only [puts, dsts, Act.put, e5, e6, e7, e8, e9, e4, List.filterMap_cons, List.filterMap_nil, List.setIfInBounds_toArray, List.set_cons_zero, List.set_cons_succ]
    have q0 := hB.cell 0
    have q1 := hB.cell 1
    have q2 := hB.cell 2
    simp at q0 q1 q2
    clear e5 e6 e7 e8 e9 e4 o5 o8 hG hB
    rw [hn'] at q2 HM O8 ⊢
    clear hn'
    go_wp2_with fail
    refine (specOramOk_c ⟨List.replicate 15 [], [], ls⟩ _ _ HM.out HZ.out).mono ?_
    rintro e w5 ⟨rfl, h5⟩
    rw [oramB_new]
    have B5 := Lib.hid (BB.out.grow h5)
    have C5 := Lib.hid (BG.out.grow h5)
    have P5 := Lib.hid (own_grow O5.out h5)
    have P8 := Lib.hid (own_grow O8.out h5)
    have G5 := Lib.hid (gbT (gbT GA.out G4.out) h5)
    clear q0 q1 q2 h5
    have b0 := B5.out.cell 0
    have b1 := B5.out.cell 1
    have b2 := B5.out.cell 2
    have f0 := B5.out.frozen 0
    have f1 := B5.out.frozen 1
    have f2 := B5.out.frozen 2
    have q0 := C5.out.cell 0
    have q1 := C5.out.cell 1
    have q2 := C5.out.cell 2
    simp at b0 b1 b2 q0 q1 q2
    have hlw : w.heap.size ≤ B := by have := HBB.out; omega
    have hl1 : w.heap.size ≤ w1.heap.size := WL.out
    cases hb : leavesB ls with
    | false =>
      have HB := Lib.hid hb
      clear hb
      go_wp2_with fail
      exact ret_ct rfl rfl stOram (fill3 B5.out rfl _ _ _) rfl rfl (NewJ.no HB.out (gbS (p := ⟨B, 2, none⟩) (gbS (p := ⟨B, 1, none⟩) (gbS (p := ⟨B, 0, none⟩) G5.out hlw _) hlw _) hlw _))
    | true =>
      have HB := Lib.hid hb
      clear hb
      go_wp2_with fail
      refine ret_ct rfl rfl stOram (fill3 B5.out rfl _ _ _) rfl rfl ?_
      have := HNN.out
      subst this
      exact NewJ.yes HB.out (gbS (p := ⟨B, 2, none⟩) (gbS (p := ⟨B, 1, none⟩) (gbS (p := ⟨B, 0, none⟩) G5.out hlw _) hlw _) hlw _) (own_base (own_set (own_set (own_set P5.out BL.out 0 _) BL.out 1 _) BL.out 2 _) hl1) (own_base (own_set (own_set (own_set P8.out BL.out 0 _) BL.out 1 _) BL.out 2 _) hl1)
end Go.Proofs.Ythncoohkdmjcaaa
