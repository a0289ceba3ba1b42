/-
  A drawn memory: it is well-formed; nothing else is said of it.
-/
import Derived.Test.YthncoohkdmjcaaaMgFnMemory38
import Derived.Test.YthncoohkdmjcaaaMgFnMemory23
import Derived.Test.YthncoohkdmjcaaaMgFnMemory39
import Derived.Test.YthncoohkdmjcaaaMgFnMemory42
namespace Go.Proofs.Ythncoohkdmjcaaa
open Go.RowKit
set_option linter.unusedVariables false
set_option linter.unusedSimpArgs false
theorem newM_ok {ls : List Int} (h : ls.length = 12) (h2 : ∀ q ∈ ls, 0 ≤ q ∧ q < 8) : OOk (newM ls) := by
  have hl : leavesB ls = true := by
    unfold leavesB
    simp only [Bool.and_eq_true, decide_eq_true_eq, List.all_eq_true]
    exact ⟨h, fun a ha => ⟨(h2 a ha).1, by have := (h2 a ha).2; omega⟩⟩
  rw [newM_yes hl]
  exact oramB_is (by rw [oramB_new]; exact hl)
theorem accR_ok {m : OM} {id value leaf : Int} {write : Bool} (h : OOk m) : OOk (accR m id write value leaf) := by
  unfold accR
  cases hb : accB m id value leaf with
  | false => simpa using h
  | true =>
    obtain ⟨ho, hi, hv, hl⟩ := accB_is hb
    simp only [if_true]
    exact acc_ok ho hi.1 hi.2 hv.1 hv.2 hl.1 hl.2
def factB (d : Tmp) : Fact := ⟨[d], fun l _ => ∃ b : Bool, l.getD 0 undef = .bool b⟩
def factC (d : Tmp) (R : Value → Prop) (g : Nat) (A : Option Addr) (n c : Nat) (bs : List Int) : Fact := ⟨[d], fun l w => R (l.getD 0 undef) ∧ Cur w g A n c bs⟩
def isB (v : Value) : Prop := ∃ b : Bool, v = .bool b
theorem factC_at {d : Tmp} {R : Value → Prop} {g : Nat} {A : Option Addr} {n c : Nat} {bs : List Int} {f : Tmp → Value} {w : World} : (factC d R g A n c bs).at_ f w = (R (f d) ∧ Cur w g A n c bs) := rfl
def isI (v : Value) : Prop := ∃ x : Int, v = .int .i64 x
/-- A well-formed memory of one's own, above lo. -/
def ownM (lo : Nat) (V : Value) (w : World) : Prop := ∃ m F, OOk m ∧ AggO w (coram m) F V ∧ ∀ y ∈ F, lo ≤ y
theorem ownM.grow {lo : Nat} {V : Value} {w w' : World} (h : ownM lo V w) (k : w.grownBy w' none) : ownM lo V w' := by
  obtain ⟨m, F, h1, h2, h3⟩ := h
  exact ⟨m, F, h1, h2.grow k, h3⟩
theorem ownM.chg {lo : Nat} {V : Value} {w w' : World} {S : Nat → Prop} (h : ownM lo V w) (k : Chg S w w') (hs : ∀ y, lo ≤ y → ¬ S y) : ownM lo V w' := by
  obtain ⟨m, F, h1, h2, h3⟩ := h
  exact ⟨m, F, h1, h2.chg k (fun y hy => hs y (h3 y hy)), h3⟩
def tupM (lo : Nat) (v : Value) (w : World) : Prop := ∃ (V : Value) (x y : Int) (b : Bool), v = .tuple #[V, .int .i64 x, .int .i64 y, .bool b] ∧ ownM lo V w
theorem tupM.chg {lo : Nat} {v : Value} {w w' : World} {S : Nat → Prop} (h : tupM lo v w) (k : Chg S w w') (hs : ∀ y, lo ≤ y → ¬ S y) : tupM lo v w' := by
  obtain ⟨V, x, y, b, h1, h2⟩ := h
  exact ⟨V, x, y, b, h1, h2.chg k hs⟩
theorem tupM_st {lo : Nat} : stable (tupM lo) := fun v w w' ⟨V, x, y, b, h1, h2⟩ hg => ⟨V, x, y, b, h1, h2.grow hg⟩
theorem ownM_st {lo : Nat} : stable (ownM lo) := fun v w w' h hg => h.grow hg
theorem factB_st {d : Tmp} : stableF (factB d) := fun _ _ _ h _ => h
theorem factC_st {d : Tmp} {R : Value → Prop} {g : Nat} {A : Option Addr} {n c : Nat} {bs : List Int} : stableF (factC d R g A n c bs) := fun _ _ _ h hg => ⟨h.1, h.2.grow hg⟩
theorem OSE.chgN {lo g gc : Nat} {m : OM} {w w' : World} (h : OSE lo g m w) (k : w.grownBy w' (some gc)) (hg : gc < lo) : OSE lo g m w' := by
  obtain ⟨u0, u1, u2, F0, F1, F2, h⟩ := h
  exact ⟨u0, u1, u2, F0, F1, F2, h.chg (Chg.of (S := fun y => y = gc) k (fun y hy => by injection hy with hy; exact hy.symm)) (fun y hy e => by have := h.l0 y hy; omega) (fun y hy e => by have := h.l1 y hy; omega) (fun y hy e => by have := h.l2 y hy; omega) (fun e => by have := h.lg; omega)⟩
theorem agg_ne {w : World} {m : OM} {F : List Nat} {V : Value} {g : Nat} {cs : Array Value} (h : AggO w (coram m) F V) (B : Blk w g 36 cs) : g ∉ F := by
  obtain ⟨v0, v1, v2, G0, G1, G2, e, rfl, a0, a1, a2, _⟩ := coram_oopen h
  have h0 : g ∉ G0 := by
    obtain ⟨n, vs, Fs, h1, h2, h3, h4, h5⟩ := a0
    rw [h4]
    intro hg
    rcases List.mem_append.1 hg with hg | hg
    · exact own_blk_ne h2 B (by decide) (by simpa using hg)
    · obtain ⟨L, hL, hgL⟩ := List.mem_flatten.1 hg
      obtain ⟨i, hi⟩ := List.mem_iff_getElem?.1 hL
      have hil := (List.getElem?_eq_some_iff.1 hi).1
      obtain ⟨c, v, F, hc, hv, hF, ho⟩ := h3.get (i := i) (by rw [← h3.lf]; exact hil)
      rw [hi] at hF
      injection hF with hF
      subst hF
      rw [cbs_flat, List.getElem?_map] at hc
      obtain ⟨l, _, rfl⟩ := Option.map_eq_some_iff.1 hc
      exact cblocks_ne ho B (by decide) hgL
  simp only [List.flatten_cons, List.flatten_nil, List.append_nil, List.mem_append, not_or]
  exact ⟨h0, cblocks_ne a1 B (by decide), cints_ne a2 B (by decide)⟩
theorem ownM.put {lo : Nat} {V : Value} {w : World} {g : Nat} {cs : Array Value} (h : ownM lo V w) (B : Blk w g 36 cs) (u0 u1 u2 : Value) : ownM lo V (((w.setCell ⟨g, 0, none⟩ u0).setCell ⟨g, 1, none⟩ u1).setCell ⟨g, 2, none⟩ u2) := by
  obtain ⟨m, F, h1, h2, h3⟩ := h
  exact ⟨m, F, h1, h2.chg (chgS3 w g u0 u1 u2) (fun y hy e => agg_ne h2 B (e ▸ hy)), h3⟩
theorem tupM.put {lo : Nat} {V : Value} {w : World} {g : Nat} {cs : Array Value} (h : tupM lo V w) (B : Blk w g 36 cs) (u0 u1 u2 : Value) : tupM lo V (((w.setCell ⟨g, 0, none⟩ u0).setCell ⟨g, 1, none⟩ u1).setCell ⟨g, 2, none⟩ u2) := by
  obtain ⟨V', x, y, b, h1, h2⟩ := h
  exact ⟨V', x, y, b, h1, h2.put B u0 u1 u2⟩
theorem specOramAccess_any (m : OM) (hm : OOk m) (v : Value) (id value leaf : Int) (write : Bool) (lo : Nat) (w : World) (hl : lo ≤ w.heap.size) (h : AggR w (coram m) v) :
    Calls Try.prog 39 #[v, .int .i64 id, .bool write, .int .i64 value, .int .i64 leaf] w fun e w' => ∃ (V : Value) (x y : Int) (b : Bool), e = .returned (.tuple #[V, .int .i64 x, .int .i64 y, .bool b]) ∧ ownM lo V w' ∧ w.grownBy w' none := by
  refine (specOramAccess_x m v id value leaf write w h (by have := hm.szle; omega)).mono ?_
  rintro e w' ⟨V, F, rfl, h1, h2, h3⟩
  exact ⟨V, _, _, _, rfl, ⟨_, F, accR_ok hm, h1, fun y hy => Nat.le_trans hl (h2 y hy)⟩, h3⟩
def memE (lo g : Nat) (w : World) : Prop := ∃ m, OOk m ∧ OSE lo g m w
def T31 (lo g gc : Nat) (k : Int) (a : Value) (A : Option Addr) (n c : Nat) (bs : List Int) : List Fact :=
  [onT 26 (isV a), onT 27 (isV (.int .i64 k)), onT 28 (isV (.pointer (some ⟨gc, 0, none⟩))), factC 29 isB gc A n c bs, onT 30 (fun v _ => isB v), onT 31 (isV (.pointer (some ⟨gc, 0, none⟩))), factC 32 isI gc A n c bs, onT 33 (isV (.pointer (some ⟨gc, 0, none⟩))), factC 34 isI gc A n c bs,
   onT 35 (tupM lo), onT 25 (tupM lo), onT 36 (ownM lo), noF, noF, noF, ⟨[], fun _ w => memE lo g w⟩]
theorem T31_st {lo g gc : Nat} {k : Int} {a : Value} {A : Option Addr} {n c : Nat} {bs : List Int} : stablesF (T31 lo g gc k a A n c bs) := by
  unfold T31
  refine stF_cons (stableF_on (isV_st _)) (stF_cons (stableF_on (isV_st _)) (stF_cons (stableF_on (isV_st _)) (stF_cons factC_st (stF_cons (stableF_on (fun _ _ _ h _ => h)) (stF_cons (stableF_on (isV_st _)) (stF_cons factC_st (stF_cons (stableF_on (isV_st _)) (stF_cons factC_st (stF_cons (stableF_on tupM_st) (stF_cons (stableF_on tupM_st) (stF_cons (stableF_on ownM_st) (stF_cons stableF_no (stF_cons stableF_no (stF_cons stableF_no (stF_cons ?_ stF_nil)))))))))))))))
  rintro l w w' ⟨m, h1, h2⟩ hg
  exact ⟨m, h1, h2.grow hg⟩
theorem T31_keep {lo g gc : Nat} {k : Int} {a : Value} {A : Option Addr} {n c : Nat} {bs : List Int} {f : Tmp → Value} {w w' : World} {j : Nat} (hk : w.grownBy w' (some gc)) (hc : Cur w' gc A n c bs) (hg : gc < lo) : keeps f w w' j (T31 lo g gc k a A n c bs) 0 := by
  have hch : Chg (fun y => y = gc) w w' := Chg.of hk (fun y hy => by injection hy with hy; exact hy.symm)
  simp only [T31, keeps, and_true]
  refine ⟨fun _ h => h, fun _ h => h, fun _ h => h, fun _ h => ⟨h.1, hc⟩, fun _ h => h, fun _ h => h, fun _ h => ⟨h.1, hc⟩, fun _ h => h, fun _ h => ⟨h.1, hc⟩, fun _ h => tupM.chg h hch (fun y hy => by omega), fun _ h => tupM.chg h hch (fun y hy => by omega), fun _ h => ownM.chg h hch (fun y hy => by omega), fun _ h => h, fun _ h => h, fun _ h => h, fun _ h => ?_⟩
  obtain ⟨m, h1, h2⟩ := h
  exact ⟨m, h1, h2.chgN hk hg⟩
theorem T31_put {lo g gc : Nat} {k : Int} {a : Value} {A : Option Addr} {n c : Nat} {bs : List Int} {f : Tmp → Value} {w : World} {cs : Array Value} (B : Blk w g 36 cs) (u0 u1 u2 : Value) (hg : gc ≠ g) (hA : 0 < n → ∀ a, A = some a → a.block ≠ g) : keeps f w (((w.setCell ⟨g, 0, none⟩ u0).setCell ⟨g, 1, none⟩ u1).setCell ⟨g, 2, none⟩ u2) 15 (T31 lo g gc k a A n c bs) 0 := by
  have hch := chgS3 w g u0 u1 u2
  have hcc : Cur w gc A n c bs → Cur (((w.setCell ⟨g, 0, none⟩ u0).setCell ⟨g, 1, none⟩ u1).setCell ⟨g, 2, none⟩ u2) gc A n c bs := fun h => h.kept hch (hch.block gc h.lt hg) hA
  simp only [T31, keeps, and_true]
  refine ⟨fun _ h => h, fun _ h => h, fun _ h => h, fun _ h => ⟨h.1, hcc h.2⟩, fun _ h => h, fun _ h => h, fun _ h => ⟨h.1, hcc h.2⟩, fun _ h => h, fun _ h => ⟨h.1, hcc h.2⟩, fun _ h => tupM.put h B _ _ _, fun _ h => tupM.put h B _ _ _, fun _ h => ownM.put h B _ _ _, fun _ h => h, fun _ h => h, fun _ h => h, fun h => by simp at h⟩
def codesOf' : Code → List Code
  | .loop c => .loop c :: codesOf' c
  | .region i o d => [.region i o d]
  | .seq a b => codesOf' a ++ codesOf' b
  | .block _ c => codesOf' c
  | .scope c => codesOf' c
  | .cond _ a b => codesOf' a ++ codesOf' b
  | _ => []
def isReg' (k : Nat) : Code → Bool
  | .region i _ _ => i == k
  | _ => false
noncomputable def regNo' (f : Func) (k : Nat) : Code := ((codesOf' (f.body.getD .skip)).find? (isReg' k)).getD .skip
set_option maxHeartbeats 4000000 in
set_option maxRecDepth 1000000 in
theorem l31R8 (lo g gc : Nat) (m : OM) (k : Int) (A : Option Addr) (n c : Nat) (bs : List Int) (w : World) (hm : OOk m) (hs : OSE lo g m w) (hc : Cur w gc A n c bs) (hgc : gc < lo) (hA : 0 < n → ∀ a, A = some a → a.block < lo)
    (Q : Exit → Act → World → Prop) (s1 s2 s4 s5 s7 s8 s9 s10 s11 s12 s13 s14 s15 s16 s17 s18 s19 s20 s21 s22 s23 s24 s25 s26 s27 s28 s29 s30 s31 s32 s33 s34 s35 s36 s37 s38 s39 s40 : Value)
    (hQ : ∀ (v25 v26 v27 v28 v29 v30 v31 v32 v33 v34 v35 v36 v37 v38 v39 : Value) (w' : World), (∃ m, OOk m ∧ OSE lo g m w') → Cur w' gc A n c bs → Chg (fun y => y = gc ∨ lo ≤ y) w w' →
      Q .normal (⟨List.toArray ((.pointer (some ⟨gc, 0, none⟩)) :: s1 :: s2 :: (.pointer (some ⟨g, 0, none⟩)) :: s4 :: s5 :: (.int .i64 k) :: s7 :: s8 :: s9 :: s10 :: s11 :: s12 :: s13 :: s14 :: s15 :: s16 :: s17 :: s18 :: s19 :: s20 :: s21 :: s22 :: s23 :: s24 :: v25 :: v26 :: v27 :: v28 :: v29 :: v30 :: v31 :: v32 :: v33 :: v34 :: v35 :: v36 :: v37 :: v38 :: v39 :: s40 :: []), []⟩ : Act) w') :
    Code.wp Try.prog (regNo' Try.f74 8) Q (⟨List.toArray ((.pointer (some ⟨gc, 0, none⟩)) :: s1 :: s2 :: (.pointer (some ⟨g, 0, none⟩)) :: s4 :: s5 :: (.int .i64 k) :: s7 :: s8 :: s9 :: s10 :: s11 :: s12 :: s13 :: s14 :: s15 :: s16 :: s17 :: s18 :: s19 :: s20 :: s21 :: s22 :: s23 :: s24 :: s25 :: s26 :: s27 :: s28 :: s29 :: s30 :: s31 :: s32 :: s33 :: s34 :: s35 :: s36 :: s37 :: s38 :: s39 :: s40 :: []), []⟩ : Act) w := by
  conv => arg 2; whnf
  have HQ := Lib.hid hQ
  obtain ⟨A0, n0, c0, A1, c1, A2, c2, F0, F1, F2, hS⟩ := OSE.forms hs
  have HS := Lib.hid (hS.grow (gbD (gbR w none)))
  have HC := Lib.hid (hc.grow (gbD (gbR w none)))
  have HM := Lib.hid hm
  have LG := hS.lg
  have LW := hS.blk.lt
  have hne : gc ≠ g := by omega
  have hne' : g ≠ gc := by omega
  clear hQ hs hS hc hm
  refine region_reg6 (T31 lo g gc k (.agg #[.slice A0 n0 c0, .slice A1 m.st.length c1, .slice A2 m.pos.length c2]) A n c bs) [(3, gc), (6, gc), (8, gc), (15, g)] (by kernel_rfl) (by kernel_rfl) (by kernel_rfl) T31_st ?_ ?_
  · simp only [hops6, and_true]
    have blk : ∀ (w4 : World), w4.heap[g]? = w.drew.heap[g]? → Blk w4 g 36 #[.slice A0 n0 c0, .slice A1 m.st.length c1, .slice A2 m.pos.length c2] := fun w4 h => h.trans HS.out.blk
    have BLK := Lib.hid blk
    have WS : w.drew.heap.size = w.heap.size := by simp
    clear blk
    refine ⟨?_, ?_, ?_, ?_, ?_, ?_, ?_, ?_, ?_, ?_, ?_, ?_, ?_, ?_, ?_, ?_⟩
    · intro f w4 hG pre old hd
      have B4 := BLK.out w4 (pre g (by omega) (fun s hs => by simp [hne'] at hs; subst hs; kernel_rfl))
      have b0 := B4.cell 0
      have b1 := B4.cell 1
      have b2 := B4.cell 2
      simp at b0 b1 b2
      clear hd
      simp [puts, dsts, Act.put]
      go_wp2_with fail
      exact ⟨_, rfl, by simp [T31, fAt, onT_at, upd_some, isV], Or.inl (gbR _ _)⟩
    · intro f w4 hG pre old hd
      clear hd
      simp [puts, dsts, Act.put]
      go_wp2_with fail
      exact ⟨_, rfl, by simp [T31, fAt, onT_at, upd_some, isV], Or.inl (gbR _ _)⟩
    · intro f w4 hG pre old hd
      clear hd
      simp [puts, dsts, Act.put]
      go_wp2_with fail
      exact ⟨_, rfl, by simp [T31, fAt, onT_at, upd_some, isV], Or.inl (gbR _ _)⟩
    · intro f w4 hG pre old hd
      have C4 := HC.out.kept hG (pre gc (by omega) (fun s hs => by simp [hne] at hs; rcases hs with rfl | rfl | rfl <;> kernel_rfl)) (fun hn a ha e => by
        have := hA hn a ha
        have h2 := HC.out.off hn a ha
        obtain ⟨s, hs⟩ := e
        simp at hs
        simp at h2
        rcases hs with hs | hs | hs | hs
        · exact h2 hs.2
        · exact h2 hs.2
        · exact h2 hs.2
        · omega)
      simp [depsF, bindE, List.filter_cons, bd_data, bd_chain, bd_guard, bd_phase, bd_text, bd_gc, T31, fAt, onT_at, isV, factC_at] at hd
      simp [puts, dsts, Act.put, hd]
      go_wp2_with fail
      refine (l01Once_c _ 4 (by omega) gc A n c bs C4).mono ?_
      rintro e w5 ⟨b, rfl, hc5, hg5⟩
      have H5 := Lib.hid hc5
      have hK := T31_keep (lo := lo) (g := g) (k := k) (a := .agg #[.slice A0 n0 c0, .slice A1 m.st.length c1, .slice A2 m.pos.length c2]) (f := f) (j := 3) hg5 hc5 hgc
      have hch : Chg (fun b => w.heap.size ≤ b ∨ b = gc) w4 w5 := Chg.of hg5 (fun y h => by injection h with h; exact .inr h.symm)
      clear hc5 hg5
      go_wp2_with fail
      exact ⟨_, rfl, ⟨⟨b, rfl⟩, H5.out⟩, Or.inr ⟨hch, hK⟩⟩
    · intro f w4 hG pre old hd
      simp [depsF, bindE, List.filter_cons, bd_data, bd_chain, bd_guard, bd_phase, bd_text, bd_gc, T31, fAt, onT_at, isV, factC_at] at hd
      obtain ⟨⟨b, e29⟩, _⟩ := hd
      simp [puts, dsts, Act.put, e29]
      go_wp2_with fail
      exact ⟨_, rfl, ⟨_, rfl⟩, Or.inl (gbR _ _)⟩
    · intro f w4 hG pre old hd
      clear hd
      simp [puts, dsts, Act.put]
      go_wp2_with fail
      exact ⟨_, rfl, by simp [T31, fAt, onT_at, upd_some, isV], Or.inl (gbR _ _)⟩
    · intro f w4 hG pre old hd
      simp [depsF, bindE, List.filter_cons, bd_data, bd_chain, bd_guard, bd_phase, bd_text, bd_gc, T31, fAt, onT_at, isV, factC_at] at hd
      obtain ⟨e31, _, C4⟩ := hd
      simp [puts, dsts, Act.put, e31]
      go_wp2_with fail
      refine (l02Word_c _ gc A n c bs C4).mono ?_
      rintro e w5 ⟨x, rfl, hx, hc5, hg5⟩
      have H5 := Lib.hid hc5
      have hK := T31_keep (lo := lo) (g := g) (k := k) (a := .agg #[.slice A0 n0 c0, .slice A1 m.st.length c1, .slice A2 m.pos.length c2]) (f := f) (j := 6) hg5 hc5 hgc
      have hch : Chg (fun b => w.heap.size ≤ b ∨ b = gc) w4 w5 := Chg.of hg5 (fun y h => by injection h with h; exact .inr h.symm)
      clear hc5 hg5
      go_wp2_with fail
      exact ⟨_, rfl, ⟨⟨x, rfl⟩, H5.out⟩, Or.inr ⟨hch, hK⟩⟩
    · intro f w4 hG pre old hd
      clear hd
      simp [puts, dsts, Act.put]
      go_wp2_with fail
      exact ⟨_, rfl, by simp [T31, fAt, onT_at, upd_some, isV], Or.inl (gbR _ _)⟩
    · intro f w4 hG pre old hd
      simp [depsF, bindE, List.filter_cons, bd_data, bd_chain, bd_guard, bd_phase, bd_text, bd_gc, T31, fAt, onT_at, isV, factC_at] at hd
      obtain ⟨e33, _, C4⟩ := hd
      simp [puts, dsts, Act.put, e33]
      go_wp2_with fail
      refine (l01Below_c _ 8 (by omega) gc A n c bs C4).mono ?_
      rintro e w5 ⟨x, rfl, hx0, hx1, hc5, hg5⟩
      have H5 := Lib.hid hc5
      have hK := T31_keep (lo := lo) (g := g) (k := k) (a := .agg #[.slice A0 n0 c0, .slice A1 m.st.length c1, .slice A2 m.pos.length c2]) (f := f) (j := 8) hg5 hc5 hgc
      have hch : Chg (fun b => w.heap.size ≤ b ∨ b = gc) w4 w5 := Chg.of hg5 (fun y h => by injection h with h; exact .inr h.symm)
      clear hc5 hg5
      go_wp2_with fail
      exact ⟨_, rfl, ⟨⟨x, rfl⟩, H5.out⟩, Or.inr ⟨hch, hK⟩⟩
    · intro f w4 hG pre old hd
      simp [depsF, bindE, List.filter_cons, bd_data, bd_chain, bd_guard, bd_phase, bd_text, bd_gc, T31, fAt, onT_at, isV, factC_at] at hd
      obtain ⟨e26, e27, ⟨b, e30⟩, ⟨⟨x, e32⟩, _⟩, ⟨y, e34⟩, C4⟩ := hd
      have ha := HS.out.agg
      have hS4 := hG.size
      have hAR := AggO.rd (ha.1.chg hG (fun y hy e => by
        have h1 := ha.2 y hy
        obtain ⟨s, hs⟩ := e
        simp at hs
        have h2 : y ≠ g := fun e => by
          subst e
          simp at hy
          rcases hy with hy | hy | hy
          · exact HS.out.n0 hy
          · exact HS.out.n1 hy
          · exact HS.out.n2 hy
        omega))
      have HAR := Lib.hid hAR
      clear ha hAR
      simp [puts, dsts, Act.put, e26, e27, e30, e32, e34]
      go_wp2_with fail
      refine (specOramAccess_any m HM.out _ k x y b lo w4 (by omega) HAR.out).mono ?_
      rintro e w5 ⟨V, z1, z2, z3, rfl, ho5, hw⟩
      have HO5 := Lib.hid ho5
      clear ho5
      go_wp2_with fail
      exact ⟨_, rfl, ⟨_, _, _, _, rfl, HO5.out⟩, Or.inl hw⟩
    · intro f w4 hG pre old hd
      simp [depsF, bindE, List.filter_cons, bd_data, bd_chain, bd_guard, bd_phase, bd_text, bd_gc, T31, fAt, onT_at, isV, factC_at] at hd
      obtain ⟨V, x, y, b, e35, ho⟩ := hd
      simp [puts, dsts, Act.put, e35]
      go_wp2_with fail
      exact ⟨_, rfl, ⟨_, _, _, _, rfl, ho⟩, Or.inl (gbR _ _)⟩
    · intro f w4 hG pre old hd
      simp [depsF, bindE, List.filter_cons, bd_data, bd_chain, bd_guard, bd_phase, bd_text, bd_gc, T31, fAt, onT_at, isV, factC_at] at hd
      obtain ⟨V, x, y, b, e25, ho⟩ := hd
      have HO := Lib.hid ho
      clear ho
      simp [puts, dsts, Act.put, e25]
      go_wp2_with fail
      exact ⟨_, rfl, HO.out, Or.inl (gbR _ _)⟩
    · intro f w4 hG pre old hd
      simp [depsF, bindE, List.filter_cons, bd_data, bd_chain, bd_guard, bd_phase, bd_text, bd_gc, T31, fAt, onT_at, isV, factC_at] at hd
      obtain ⟨V, x, y, b, e25, ho⟩ := hd
      clear ho
      simp [puts, dsts, Act.put, e25]
      go_wp2_with fail
      exact ⟨_, rfl, trivial, Or.inl (gbR _ _)⟩
    · intro f w4 hG pre old hd
      simp [depsF, bindE, List.filter_cons, bd_data, bd_chain, bd_guard, bd_phase, bd_text, bd_gc, T31, fAt, onT_at, isV, factC_at] at hd
      obtain ⟨V, x, y, b, e25, ho⟩ := hd
      clear ho
      simp [puts, dsts, Act.put, e25]
      go_wp2_with fail
      exact ⟨_, rfl, trivial, Or.inl (gbR _ _)⟩
    · intro f w4 hG pre old hd
      simp [depsF, bindE, List.filter_cons, bd_data, bd_chain, bd_guard, bd_phase, bd_text, bd_gc, T31, fAt, onT_at, isV, factC_at] at hd
      obtain ⟨V, x, y, b, e25, ho⟩ := hd
      clear ho
      simp [puts, dsts, Act.put, e25]
      go_wp2_with fail
      exact ⟨_, rfl, trivial, Or.inl (gbR _ _)⟩
    · intro f w4 hG pre old hd
      simp [depsF, bindE, List.filter_cons, bd_data, bd_chain, bd_guard, bd_phase, bd_text, bd_gc, T31, fAt, onT_at, isV, factC_at] at hd
      have B4 := BLK.out w4 (pre g (by omega) (fun s hs => by simp [hne'] at hs; subst hs; kernel_rfl))
      obtain ⟨hO, _⟩ := hd
      obtain ⟨m', F, h1, h2, h3⟩ := hO
      obtain ⟨B0, p0, s0', B1, p1, s1', B2, p2, s2', e36⟩ := coram_oform h2
      have hn := agg_ne h2 B4
      have hOS : OSE lo g m' (((w4.setCell ⟨g, 0, none⟩ (.slice B0 p0 s0')).setCell ⟨g, 1, none⟩ (.slice B1 p1 s1')).setCell ⟨g, 2, none⟩ (.slice B2 p2 s2')) := by
        rw [e36] at h2
        exact OS.made (cs := #[]) (fill3 B4 rfl _ _ _) (h2.chg (chgS3 w4 g _ _ _) (fun y hy e => hn (e ▸ hy))) h3 LG hn
      have hK := T31_put (lo := lo) (k := k) (a := .agg #[.slice A0 n0 c0, .slice A1 m.st.length c1, .slice A2 m.pos.length c2]) (A := A) (n := n) (c := c) (bs := bs) (f := f) B4 (.slice B0 p0 s0') (.slice B1 p1 s1') (.slice B2 p2 s2') hne (fun hn a ha e => by have := hA hn a ha; omega)
      have hch := (chgS3 w4 g (.slice B0 p0 s0') (.slice B1 p1 s1') (.slice B2 p2 s2')).mono (T := fun b => w.heap.size ≤ b ∨ b = g) (fun y hy => .inr hy)
      have ME := Lib.hid (show memE lo g _ from ⟨m', h1, hOS⟩)
      have b0 := B4.cell 0
      have b1 := B4.cell 1
      have b2 := B4.cell 2
      have f0 := B4.frozen 0
      have f1 := B4.frozen 1
      have f2 := B4.frozen 2
      simp at b0 b1 b2
      clear h1 h2 h3 hn hOS
      simp [puts, dsts, Act.put, e36]
      go_wp2_with fail
      exact ⟨rfl, ⟨.bool false, ME.out⟩, Or.inr ⟨hch, hK⟩⟩
  · intro f w6 hG hd
    simp [knowsF, T31, onT_at, isV, factC_at, noF_at] at hd
    obtain ⟨h0, h1, h2, h3, h4, h5, h6, h7, ⟨_, hC⟩, h9, h10, h11, hL⟩ := hd
    have hL : memE lo g w6 := hL
    have hch : Chg (fun y => y = gc ∨ lo ≤ y) w w6 := (Chg.of (gbD (gbR w none)) (by simp)).trans (hG.mono (fun y hy => by
      obtain ⟨s, hs⟩ := hy
      simp at hs
      omega))
    clear h0 h1 h2 h3 h4 h5 h6 h7 h9 h10 h11
    simp only [puts, dsts, Act.put, List.filterMap_cons, List.filterMap_nil, List.setIfInBounds_toArray, List.set_cons_zero, List.set_cons_succ]
    exact HQ.out _ _ _ _ _ _ _ _ _ _ _ _ _ _ _ w6 hL hC hch
set_option maxHeartbeats 4000000 in
set_option maxRecDepth 1000000 in
theorem l31Case_c (w : World) (g : Nat) (A : Option Addr) (n c : Nat) (bs : List Int) (hc : Cur w g A n c bs) :
    Calls Try.prog 74 #[.pointer (some ⟨g, 0, none⟩)] w fun e w' => ∃ V m F, e = .returned V ∧ OOk m ∧ AggO w' (coram m) F V ∧ (∀ y ∈ F, w.heap.size ≤ y) ∧ Cur w' g A n c bs ∧ w.grownBy w' (some g) := by
  have hgl := hc.lt
  have HL : Hid (∀ y, w.heap.size ≤ y → 0 < n → ∀ a, A = some a → a.block ≠ y) := Lib.hid (fun y hy => hc.old hy)
  have HC := Lib.hid (hc.grow (gbA (gbR w none) (.cells #[.slice none 0 0, .slice none 0 0, .slice none 0 0] 36)))
  have BR := Lib.hid (Blk.new w 36 #[.slice none 0 0, .slice none 0 0, .slice none 0 0])
  have G0 := Lib.hid (gbW (r := some g) (gbA (gbR w none) (.cells #[.slice none 0 0, .slice none 0 0, .slice none 0 0] 36)))
  clear hc
  go_enter Try.func74, Try.ntmps74
  go_wp2_with fail
  refine (l03List_c _ 8 (by omega) 12 (by omega) g A n c bs HC.out).mono ?_
  rintro e w1 ⟨v1, ls, rfl, o1, l1, r1, c1, g1⟩
  obtain ⟨A1, s1, rfl, _, _⟩ := own_form o1
  have B1 := Lib.hid (BR.out.grown g1 (by simp; omega))
  have G1 := Lib.hid (gbT G0.out g1)
  have C1 := Lib.hid c1
  have O1 := Lib.hid o1
  have R1 : Hid (∀ q ∈ ls, 0 ≤ q ∧ q < 8) := Lib.hid fun q hq => ⟨(r1 q hq).1, (r1 q hq).2 (by omega)⟩
  have S1 := Lib.hid g1.size
  clear o1 r1 c1 g1
  go_wp2_with fail
  refine (specOramNew_c A1 12 s1 ls w1 (show Ints w1 A1 12 ls from Rd.ofOwn O1.out) (by omega)).mono ?_
  rintro e w2 ⟨V, F, rfl, a2, l2, g2⟩
  obtain ⟨B0, n0, s0, B1', n1, s1', B2, n2, s2, rfl⟩ := coram_oform a2
  have C2 := Lib.hid (C1.out.grow g2)
  have M2 := Lib.hid (newM_ok (by omega) R1.out)
  have K2 := Lib.hid (B1.out.grow g2)
  have G2 := Lib.hid (gbT G1.out (gbW g2))
  have Z2 := g2.size
  have S1' := S1.out
  simp at S1'
  obtain ⟨g3, hg3⟩ : ∃ x, w2.heap.size = x := ⟨_, rfl⟩
  obtain ⟨w3, hw3⟩ : ∃ x : World, w2.alloc (.cells #[.slice B0 n0 s0, .slice B1' n1 s1', .slice B2 n2 s2] 36) = x := ⟨_, rfl⟩
  have O3 : Hid (OSE (w.heap.size + 1) g3 (newM ls) w3) := by
    rw [← hw3, ← hg3]
    exact Lib.hid (OS.made (cs := #[]) (Blk.new w2 _ _) (a2.grow (gbA (gbR _ _) _)) (fun y hy => by have := l2 y hy; omega) (by omega) (fun hy => by have := a2.lt _ hy; omega))
  have C3 : Hid (Cur w3 g A n c bs) := by rw [← hw3]; exact Lib.hid (C2.out.grow (gbA (gbR _ _) _))
  have K3 : Hid (Blk w3 w.heap.size 36 #[.slice none 0 0, .slice none 0 0, .slice none 0 0]) := by rw [← hw3]; exact Lib.hid (K2.out.grow (gbA (gbR _ _) _))
  have G3 : Hid (w.grownBy w3 (some g)) := by rw [← hw3]; exact Lib.hid (gbT G2.out (gbW (gbA (gbR _ none) _)))
  have L3 : w.heap.size + 1 ≤ g3 := by omega
  clear a2 l2 g2
  go_wp2_with fail
  try rw [hw3]
  try rw [hg3]
  clear hw3 hg3 C2 K2 G2 B1 G1 C1 O1 HC BR G0
  obtain ⟨lo, hlo⟩ : ∃ lo, w.heap.size + 1 = lo := ⟨_, rfl⟩
  rw [hlo] at O3 L3
  go_loopw [5] (fun q wr => ∃ i : Nat, i ≤ 16 ∧ q = .int .i64 i ∧ Hid (∃ m, OOk m ∧ OSE lo g3 m wr) ∧ Hid (Cur wr g A n c bs) ∧ Hid (Blk wr w.heap.size 36 #[.slice none 0 0, .slice none 0 0, .slice none 0 0]) ∧ Hid (w.grownBy wr (some g))) (fun q _ => 16 - (intOf q).toNat)
  case atStart => exact ⟨0, by omega, rfl, ⟨_, M2.out, O3.out⟩, C3, K3, G3⟩
  case round =>
    clear O3 C3 K3 G3
    obtain ⟨i, hi, rfl, hO, hC, hK, hG⟩ := hrel
    go_wp2_with fail
    refine (l01Below_c _ 16 (by omega) g A n c bs hC.out).mono ?_
    rintro e w4 ⟨y, rfl, hy0, hy1, c4, g4⟩
    obtain ⟨yn, rfl⟩ := Int.eq_ofNat_of_zero_le hy0
    have hy2 := hy1 (by omega)
    obtain ⟨m, hm, hO⟩ := hO.out
    have hO4 := Lib.hid (OSE.chgN hO g4 (by omega))
    have hC4 := Lib.hid c4
    have hK4 := Lib.hid (hK.out.grown g4 (by simp; omega))
    have hG4 := Lib.hid (gbT hG.out g4)
    have HM := Lib.hid hm
    clear c4 g4 hy1 hO hC hK hG hm
    by_cases hkt : (i : Int) < (yn : Int)
    · go_wp2_with fail
      refine (l01Below_c _ 12 (by omega) g A n c bs hC4.out).mono ?_
      rintro e w5 ⟨z, rfl, hz0, hz1, c5, g5⟩
      have hO5 := Lib.hid (OSE.chgN hO4.out g5 (by omega))
      have hC5 := Lib.hid c5
      have hK5 := Lib.hid (hK4.out.grown g5 (by simp; omega))
      have hG5 := Lib.hid (gbT hG4.out g5)
      clear c5 g5 hz1 hO4 hC4 hK4 hG4
      go_wp2_with fail
      refine (l01Once_c _ 3 (by omega) g A n c bs hC5.out).mono ?_
      rintro e w6 ⟨b, rfl, c6, g6⟩
      have hO6 := Lib.hid (OSE.chgN hO5.out g6 (by omega))
      have hC6 := Lib.hid c6
      have hK6 := Lib.hid (hK5.out.grown g6 (by simp; omega))
      have hG6 := Lib.hid (gbT hG5.out g6)
      clear c6 g6 hO5 hC5 hK5 hG5
      cases b with
      | false =>
        go_wp2_with fail
        refine l31R8 lo g3 g m z A n c bs _ HM.out hO6.out hC6.out (by omega) (fun hn a ha => by have := HL.out; exact Nat.lt_of_not_le fun h => HL.out a.block (by omega) hn a ha rfl) _ _ _ _ _ _ _ _ _ _ _ _ _ _ _ _ _ _ _ _ _ _ _ _ _ _ _ _ _ _ _ _ _ _ _ _ _ _ _ ?_
        intro v25 v26 v27 v28 v29 v30 v31 v32 v33 v34 v35 v36 v37 v38 v39 w7 hS hC hch
        have S7 := Lib.hid hS
        have C7 := Lib.hid hC
        have B7 := Lib.hid (hK6.out.chg hch (fun e => by rcases e with e | e <;> omega))
        have G7 := Lib.hid (gbC hG6.out hch (fun y hy => hy.elim (fun e => .inl (by rw [e])) (fun e => .inr (by omega))))
        clear hS hC hch hK6 hG6
        go_wp2_with fail
        go_roundw
        case rel => exact ⟨i + 1, by omega, by go_num, S7, C7, B7, G7⟩
        case measure => simp [intOf]; omega
      | true =>
        go_wp2_with fail
        refine (l01Below_c _ 3 (by omega) g A n c bs hC6.out).mono ?_
        rintro e w7 ⟨u, rfl, hu0, hu1, c7, g7⟩
        have hO7 := Lib.hid (OSE.chgN hO6.out g7 (by omega))
        have hC7 := Lib.hid c7
        have hK7 := Lib.hid (hK6.out.grown g7 (by simp; omega))
        have hG7 := Lib.hid (gbT hG6.out g7)
        clear c7 g7 hu1 hO6 hC6 hK6 hG6
        have hO6 := hO7
        have hC6 := hC7
        have hK6 := hK7
        have hG6 := hG7
        clear hO7 hC7 hK7 hG7
        go_wp2_with fail
        refine l31R8 lo g3 g m u A n c bs _ HM.out hO6.out hC6.out (by omega) (fun hn a ha => Nat.lt_of_not_le fun h => HL.out a.block (by omega) hn a ha rfl) _ _ _ _ _ _ _ _ _ _ _ _ _ _ _ _ _ _ _ _ _ _ _ _ _ _ _ _ _ _ _ _ _ _ _ _ _ _ _ ?_
        intro v25 v26 v27 v28 v29 v30 v31 v32 v33 v34 v35 v36 v37 v38 v39 w8 hS hC hch
        have S7 := Lib.hid hS
        have C7 := Lib.hid hC
        have B7 := Lib.hid (hK6.out.chg hch (fun e => by rcases e with e | e <;> omega))
        have G7 := Lib.hid (gbC hG6.out hch (fun y hy => hy.elim (fun e => .inl (by rw [e])) (fun e => .inr (by omega))))
        clear hS hC hch hK6 hG6
        go_wp2_with fail
        go_roundw
        case rel => exact ⟨i + 1, by omega, by go_num, S7, C7, B7, G7⟩
        case measure => simp [intOf]; omega
    · obtain ⟨A0, n0', c0, A1, c1', A2, c2', F0, F1, F2, hOS⟩ := OSE.forms hO4.out
      have HO := Lib.hid hOS
      have v0 := hOS.blk.cell 0
      have v1 := hOS.blk.cell 1
      have v2 := hOS.blk.cell 2
      have b0 := hK4.out.cell 0
      have b1 := hK4.out.cell 1
      have b2 := hK4.out.cell 2
      have f0 := hK4.out.frozen 0
      have f1 := hK4.out.frozen 1
      have f2 := hK4.out.frozen 2
      simp at v0 v1 v2 b0 b1 b2
      clear hOS
      go_wp2_with fail
      refine ret_c Try.results74 (by rfl) stOram (cs := #[.slice A0 n0' c0, .slice A1 m.st.length c1', .slice A2 m.pos.length c2']) ?B (by rfl) (by rfl) ?_
      case B => exact fill3 hK4.out rfl _ _ _
      have hch := chgS3 w4 w.heap.size (.slice A0 n0' c0) (.slice A1 m.st.length c1') (.slice A2 m.pos.length c2')
      have ha := HO.out.agg
      exact ⟨_, m, _, rfl, HM.out, ha.1.chg hch (fun y hy e => by have := ha.2 y hy; omega), fun y hy => by have := ha.2 y hy; omega, hC4.out.kept hch (hch.block g hC4.out.lt (by omega)) (fun hn a ha e => HL.out a.block (by omega) hn a ha rfl), gbC hG4.out hch (fun y hy => .inr (by omega))⟩
set_option maxHeartbeats 400000 in
theorem DrawOram_c (w : World) (A : Option Addr) (n c : Nat) (bs : List Int) (h : BytesIn w A n bs) :
    Calls Try.prog 36 #[.slice A n c] w fun e w' => ∃ V m F, e = .returned V ∧ OOk m ∧ AggO w' (coram m) F V ∧ (∀ y ∈ F, w.heap.size ≤ y) ∧ w.grownBy w' none := by
  have H := Lib.hid h
  clear h
  go_enter Try.func36, Try.ntmps36
  go_wp2_with fail
  refine (l01New_c _ A n c bs (H.out.grow (gbA (gbR _ _) _))).mono ?_
  rintro e w1 ⟨rfl, hc1, hg1, hz1⟩
  have HC := Lib.hid (show Cur w1 (w.heap.size + 1) A n c bs by simpa using hc1)
  have R1 := Lib.hid ((Blk.new w 36 #[.slice none 0 0, .slice none 0 0, .slice none 0 0]).grow hg1)
  have HG := Lib.hid (gbT (gbA (gbR w none) (.cells #[.slice none 0 0, .slice none 0 0, .slice none 0 0] 36)) hg1)
  have Z1 := hg1.size
  simp at Z1
  clear hc1 hg1 hz1
  go_wp2_with fail
  refine (l31Case_c _ _ A n c bs HC.out).mono ?_
  rintro e w2 ⟨V, m, F, rfl, hm, ha, hl, hc2, hg2⟩
  obtain ⟨A0, n0, c0, A1, n1, c1, A2, n2, c2, rfl⟩ := coram_oform ha
  have R2 := Lib.hid (Blk.grown R1.out hg2 (by simp))
  have G2 := Lib.hid (gbN HG.out hg2 (fun g e => by injection e with e; omega))
  have HA := Lib.hid ha
  have HM := Lib.hid hm
  have HL := Lib.hid hl
  have s0 := R2.out.cell 0
  have s1 := R2.out.cell 1
  have s2 := R2.out.cell 2
  have t0 := R2.out.frozen 0
  have t1 := R2.out.frozen 1
  have t2 := R2.out.frozen 2
  simp at s0 s1 s2
  clear ha hl hm hg2 hc2
  go_wp2_with fail
  have hch := chgS3 w2 w.heap.size (.slice A0 n0 c0) (.slice A1 n1 c1) (.slice A2 n2 c2)
  refine ret_c Try.results36 (by rfl) stOram (cs := #[.slice A0 n0 c0, .slice A1 n1 c1, .slice A2 n2 c2]) ?B (by rfl) (by rfl) ⟨_, m, F, rfl, HM.out, HA.out.chg hch (fun y hy e => by have := HL.out y hy; omega), fun y hy => by have := HL.out y hy; omega, gbChg G2.out hch (fun y hy => by omega)⟩
  case B => exact fill3 R2.out rfl _ _ _
end Go.Proofs.Ythncoohkdmjcaaa
