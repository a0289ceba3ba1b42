/-
  l28Case, DrawComputation of the reference: keys, a circuit, inputs and a tape that fit together.
-/
import Derived.Test.YthaadgdeadbhkaaMgFnCosts23
import Derived.Test.YthaadgdeadbhkaaMgFnCosts25
namespace Go.Proofs.Ythaadgdeadbhkaa
open Go.RowKit
set_option linter.unusedVariables false
set_option linter.unusedSimpArgs false
def facC (d : Tmp) (R : Value → Prop) (g : Nat) (A : Option Addr) (n c : Nat) (bs : List Int) : Fact := ⟨[d], fun l w => R (l.getD 0 undef) ∧ Cur w g A n c bs⟩
theorem facC_at {d : Tmp} {R : Value → Prop} {g : Nat} {A : Option Addr} {n c : Nat} {bs : List Int} {f : Tmp → Value} {w : World} : (facC d R g A n c bs).at_ f w = (R (f d) ∧ Cur w g A n c bs) := rfl
theorem facC_st {d : Tmp} {R : Value → Prop} {g : Nat} {A : Option Addr} {n c : Nat} {bs : List Int} : stableF (facC d R g A n c bs) := fun _ _ _ h hg => ⟨h.1, h.2.grow hg⟩
def isN4 (v : Value) : Prop := ∃ y : Nat, v = .int .i64 y ∧ y < 4
def isN5 (v : Value) : Prop := ∃ n : Nat, v = .int .i64 n ∧ 1 ≤ n ∧ n ≤ 5
def isTp (v : Value) : Prop := ∃ s a : Nat, v = .agg #[.int .i64 s, .int .i64 a] ∧ s < 4294967296 ∧ a < 50
def isT2 (v : Value) : Prop := ∃ s a : Int, v = .agg #[.int .i64 s, .int .i64 a]
def keyR (p : Int) (al : List Int) (A : Option Addr) (c : Nat) (w : World) : Prop := keysB ⟨p, al⟩ = true ∧ w.ownsRow 0 3 1 (.slice A al.length c) al.length (al.map (Value.int .i64))
def keyW (p : Int) (v : Value) (w : World) : Prop := ∃ A c al, v = .agg #[.int .i64 p, .slice A al.length c] ∧ keyR p al A c w
def keyT (p : Int) (v : Value) (w : World) : Prop := ∃ (A : Option Addr) (c : Nat) (al : List Int) (s t : Int), v = .tuple #[.agg #[.int .i64 p, .slice A al.length c], .agg #[.int .i64 s, .int .i64 t], .bool true] ∧ keyR p al A c w
def boxA (lo : Nat) (T : TypeId) (v : Value) (w : World) : Prop := ∃ g u0 u1, v = .pointer (some ⟨g, 0, none⟩) ∧ lo ≤ g ∧ Blk w g T #[u0, u1]
def boxKK (p : Int) (lo : Nat) (v : Value) (w : World) : Prop := ∃ g A c al, v = .pointer (some ⟨g, 0, none⟩) ∧ lo ≤ g ∧ Blk w g 26 #[.int .i64 p, .slice A al.length c] ∧ keyR p al A c w
theorem keyR.grow {p : Int} {al : List Int} {A : Option Addr} {c : Nat} {w w' : World} (h : keyR p al A c w) (k : w.grownBy w' none) : keyR p al A c w' := ⟨h.1, own_grow h.2 k⟩
theorem keyR.typ {p : Int} {al : List Int} {A : Option Addr} {c : Nat} {w w' : World} {S : Nat → Prop} (h : keyR p al A c w) (k : Chg S w w') (hS : ∀ g, S g → g < w.heap.size → ∃ T us, Blk w g T us ∧ T ≠ 3) : keyR p al A c w' := ⟨h.1, own_typ h.2 k hS⟩
theorem keyW_st {p : Int} : stable (keyW p) := fun v w w' ⟨A, c, al, h1, h2⟩ hg => ⟨A, c, al, h1, h2.grow hg⟩
theorem keyT_st {p : Int} : stable (keyT p) := fun v w w' ⟨A, c, al, s, t, h1, h2⟩ hg => ⟨A, c, al, s, t, h1, h2.grow hg⟩
theorem boxA_st {lo : Nat} {T : TypeId} : stable (boxA lo T) := fun v w w' ⟨g, u0, u1, h1, h2, h3⟩ hg => ⟨g, u0, u1, h1, h2, h3.grow hg⟩
theorem boxKK_st {p : Int} {lo : Nat} : stable (boxKK p lo) := fun v w w' ⟨g, A, c, al, h1, h2, h3, h4⟩ hg => ⟨g, A, c, al, h1, h2, h3.grow hg, h4.grow hg⟩
theorem boxA_set {lo g : Nat} {T T' : TypeId} {v : Value} {w w' : World} {cs : Array Value} {x0 x1 : Value} (h : boxA lo T v w) (B : Blk w g T' cs) (RS : Blk w' g T' #[x0, x1]) (k : Chg (fun y => y = g) w w') : boxA lo T v w' := by
  obtain ⟨g', u0, u1, h1, h2, h3⟩ := h
  by_cases e : g' = g
  · subst e
    unfold Blk at B h3
    have hT : T = T' := by rw [B] at h3; injection h3 with h3; injection h3 with _ h4 _; exact h4.symm
    rw [hT]
    exact ⟨g', x0, x1, h1, h2, RS⟩
  · exact ⟨g', u0, u1, h1, h2, h3.chg k e⟩
theorem keys_tape {P s a n : Nat} (hf : fieldB (P : Int) = true) (h1 : 1 ≤ n) (h5 : n ≤ 5) : keysB ⟨(P : Int), tapeL s a P n⟩ = true := by
  have := (field_range hf).1
  unfold keysB
  simp only
  rw [elems_tape hf (by omega), tapeL_len, inQ_yes (by omega) (by omega)]
  rfl
theorem blk_ne {w : World} {g h : Nat} {T U : TypeId} {cs ds : Array Value} (B : Blk w g T cs) (D : Blk w h U ds) (hT : T ≠ U) : g ≠ h := by
  intro e
  subst e
  unfold Blk at B D
  rw [B] at D
  injection D with D
  injection D with _ h2 _
  exact hT h2
def T28 (lo gc g6 : Nat) (p : Int) (A : Option Addr) (n c : Nat) (bs : List Int) : List Fact :=
  [onT 13 (isV (.pointer (some ⟨g6, 0, none⟩))), onT 14 (isV (.int .i64 p)), onT 15 (isV (.pointer (some ⟨gc, 0, none⟩))), facC 16 isN4 gc A n c bs, onT 17 (fun v _ => isN5 v), onT 18 (isV (.pointer (some ⟨gc, 0, none⟩))), facC 19 isTp gc A n c bs,
   onT 20 (keyT p), onT 12 (keyT p), onT 21 (keyW p), onT 22 (fun v _ => isT2 v), onT 23 (isV (.bool true)), onT 7 (boxA lo 26), onT 8 (boxA lo 31),
   ⟨[7], fun l w => boxKK p lo (l.getD 0 undef) w⟩, noF, noF]
theorem T28_st {lo gc g6 : Nat} {p : Int} {A : Option Addr} {n c : Nat} {bs : List Int} : stablesF (T28 lo gc g6 p A n c bs) := by
  unfold T28
  refine stF_cons (stableF_on (isV_st _)) (stF_cons (stableF_on (isV_st _)) (stF_cons (stableF_on (isV_st _)) (stF_cons facC_st (stF_cons (stableF_on (fun _ _ _ h _ => h)) (stF_cons (stableF_on (isV_st _)) (stF_cons facC_st (stF_cons (stableF_on keyT_st) (stF_cons (stableF_on keyT_st) (stF_cons (stableF_on keyW_st) (stF_cons (stableF_on (fun _ _ _ h _ => h)) (stF_cons (stableF_on (isV_st _)) (stF_cons (stableF_on boxA_st) (stF_cons (stableF_on boxA_st) (stF_cons ?_ (stF_cons stableF_no (stF_cons stableF_no stF_nil))))))))))))))))
  exact fun l w w' h hg => boxKK_st _ _ _ h hg
theorem T28_keep {lo gc g6 : Nat} {p : Int} {A : Option Addr} {n c : Nat} {bs : List Int} {f : Tmp → Value} {w w' : World} {j : Nat} {S : Nat → Prop} (k : Chg S w w') (hS : ∀ g, S g → g < w.heap.size → ∃ T us, Blk w g T us ∧ T ≠ 3) (hc : Cur w gc A n c bs → Cur w' gc A n c bs)
    (hK : ∀ v, boxA lo 26 v w → boxA lo 26 v w') (hT : ∀ v, boxA lo 31 v w → boxA lo 31 v w') (hKK : j ≠ 14 → ∀ v, boxKK p lo v w → boxKK p lo v w') : keeps f w w' j (T28 lo gc g6 p A n c bs) 0 := by
  have kt : ∀ v, keyT p v w → keyT p v w' := fun v ⟨A, c, al, s, t, h1, h2⟩ => ⟨A, c, al, s, t, h1, h2.typ k hS⟩
  simp only [T28, keeps, and_true]
  refine ⟨fun _ h => h, fun _ h => h, fun _ h => h, fun _ h => ⟨h.1, hc h.2⟩, fun _ h => h, fun _ h => h, fun _ h => ⟨h.1, hc h.2⟩, fun _ h => kt _ h, fun _ h => kt _ h, fun _ h => ?_, fun _ h => h, fun _ h => h, fun _ h => hK _ h, fun _ h => hT _ h, fun e h => hKK (fun e' => e (by omega)) _ h, fun _ h => h, fun _ h => h⟩
  obtain ⟨A, c, al, h1, h2⟩ := h
  exact ⟨A, c, al, h1, h2.typ k hS⟩
def insR (lo P : Nat) (v : Value) (w : World) : Prop := ∃ (I : Option Addr) (ci : Nat) (ins : List Int), v = .slice I 60 ci ∧ 60 ≤ ci ∧ ins.length = 60 ∧ (∀ x ∈ ins, 0 ≤ x ∧ x < (P : Int)) ∧ w.ownsRow lo 3 1 (.slice I 60 ci) 60 (ins.map (Value.int .i64))
theorem insR.grow {lo P : Nat} {v : Value} {w w' : World} (h : insR lo P v w) (k : w.grownBy w' none) : insR lo P v w' := by
  obtain ⟨I, ci, ins, h1, h2, h3, h4, h5⟩ := h
  exact ⟨I, ci, ins, h1, h2, h3, h4, own_grow h5 k⟩
theorem insR.chg {lo P : Nat} {v : Value} {w w' : World} {S : Nat → Prop} (h : insR lo P v w) (k : Chg S w w') (hS : ∀ y, S y → y < lo) : insR lo P v w' := by
  obtain ⟨I, ci, ins, h1, h2, h3, h4, h5⟩ := h
  exact ⟨I, ci, ins, h1, h2, h3, h4, Chg.own h5 k (fun y hy hs => by have := (h5.lt y hy).1; have := hS y hs; omega)⟩
def S28 (wq : World) (g r P : Nat) (A : Option Addr) (n c : Nat) (bs : List Int) (c2 c3 c5 : Array Value) (v : Value) (w' : World) : Prop :=
  insR wq.heap.size P v w' ∧ Cur w' g A n c bs ∧ Blk w' r 26 c2 ∧ Blk w' (r + 1) 29 c3 ∧ Blk w' (r + 1 + 1) 31 c5 ∧ Chg (fun y => y = g ∨ y = r ∨ y = r + 1 ∨ y = r + 1 + 1) wq.drew w'
theorem ret_cctc {P : Program} {fn : Func} {R : Ending → World → Prop} {a : Act} {w : World} {p q r s : Tmp} {T U V : TypeId} {g m h n n' n'' : Nat} {cs ds es : Array Value} (hh : fn.results = #[.cell p T, .cell q U, .tmp r, .cell s V]) (hp : a.tmps.getD p undef = .pointer (some ⟨g, 0, none⟩)) (S : St P T n) (B : Blk w g T cs) (hn : cs.size = n)
    (hq : a.tmps.getD q undef = .pointer (some ⟨m, 0, none⟩)) (S' : St P U n') (B' : Blk w m U ds) (hn' : ds.size = n')
    (hs : a.tmps.getD s undef = .pointer (some ⟨h, 0, none⟩)) (S'' : St P V n'') (B'' : Blk w h V es) (hn'' : es.size = n'')
    (hd : a.defers = []) (hR : R (.returned (.tuple #[.agg cs, .agg ds, a.tmps.getD r undef, .agg es])) w) : bodyPost P fn R .ret a w := by
  refine bodyPost_ret (v := .tuple #[.agg cs, .agg ds, a.tmps.getD r undef, .agg es]) ?_ hd hR
  have hp' : a.tmps[p]?.getD undef = .pointer (some ⟨g, 0, none⟩) := by simpa using hp
  have hq' : a.tmps[q]?.getD undef = .pointer (some ⟨m, 0, none⟩) := by simpa using hq
  have hs' : a.tmps[s]?.getD undef = .pointer (some ⟨h, 0, none⟩) := by simpa using hs
  simp [results, hh, hp', hq', hs', asAddr, run_row S B hn, run_row S' B' hn', run_row S'' B'' hn'']
def L28J (w : World) (g : Nat) (A : Option Addr) (n c : Nat) (bs : List Int) (e : Ending) (w' : World) : Prop :=
  ∃ (KA A1 A2 I : Option Addr) (kc n1 s1 n2 s2 ci : Nat) (k : KM) (m : AM) (ins : List Int) (P s a : Nat),
    e = .returned (.tuple #[.agg #[.int .i64 k.p, .slice KA k.al.length kc], .agg #[.int .i64 m.p, .slice A1 n1 s1, .slice A2 n2 s2], .slice I 60 ci, .agg #[.int .i64 s, .int .i64 a]]) ∧
    Fit k m P ins ∧ m.p ∈ nine ∧ (1 ≤ m.st.length ∧ m.st.length ≤ 14) ∧ m.outs.length ≤ 3 ∧ s < 4294967296 ∧ a < 50 ∧
    keyR k.p k.al KA kc w' ∧ (∃ F, AggO w' (carith m) F (.agg #[.int .i64 m.p, .slice A1 n1 s1, .slice A2 n2 s2]) ∧ ∀ y ∈ F, w.heap.size ≤ y) ∧ w'.ownsRow w.heap.size 3 1 (.slice I 60 ci) 60 (ins.map (Value.int .i64)) ∧ 60 ≤ ci ∧ Cur w' g A n c bs ∧ w.grownBy w' (some g)
set_option maxHeartbeats 800000 in
set_option maxRecDepth 1000000 in
theorem l28Case_c (w : World) (g : Nat) (A : Option Addr) (n c : Nat) (bs : List Int) (hc : Cur w g A n c bs) :
    Calls Try.prog 45 #[.pointer (some ⟨g, 0, none⟩)] w (L28J w g A n c bs) := by
  have hgl := hc.lt
  have HLb : Hid (0 < n → ∀ a, A = some a → a.block < w.heap.size) := Lib.hid (fun hn a ha => by
    obtain ⟨b, o, rfl, hb, _⟩ := hc.bytes.2 hn
    injection ha with ha
    subst ha
    simp only
    omega)
  obtain ⟨w1, hw1⟩ : ∃ y : World, ((w.alloc (.cells #[.int .i64 0, .slice none 0 0] 26)).alloc (.cells #[.int .i64 0, .slice none 0 0, .slice none 0 0] 29)).alloc (.cells #[.int .i64 0, .int .i64 0] 31) = y := ⟨_, rfl⟩
  have G1 : Hid (w.grownBy w1 none) := by rw [← hw1]; exact gbA (gbA (gbA (gbR _ _) _) _) _
  have z1 : Hid (w1.heap.size = w.heap.size + 3) := by rw [← hw1]; exact Lib.hid (by simp)
  have D2 : Hid (Blk w1 w.heap.size 26 #[.int .i64 0, .slice none 0 0]) := by rw [← hw1]; exact ((Blk.new w _ _).grow (gbA (gbR _ _) _)).grow (gbA (gbR _ _) _)
  have D3 : Hid (Blk w1 (w.heap.size + 1) 29 #[.int .i64 0, .slice none 0 0, .slice none 0 0]) := by rw [← hw1]; exact (Blk.new' _ _ _ _ (by simp)).grow (gbA (gbR _ _) _)
  have D5 : Hid (Blk w1 (w.heap.size + 1 + 1) 31 #[.int .i64 0, .int .i64 0]) := by rw [← hw1]; exact Blk.new' _ _ _ _ (by simp)
  have HC := Lib.hid (hc.grow G1.out)
  clear hc
  go_enter Try.func45, Try.ntmps45
  go_wp2_with fail
  clear hw1
  refine (l27Case_c _ g A n c bs HC.out).mono ?_
  rintro e w2 ⟨V, m, F, rfl, hok, hp, hst, hou, ha, hl, c2, g2⟩
  obtain ⟨mp, mst, mou⟩ := m
  simp only at hp hst hou
  obtain ⟨P, rfl⟩ : ∃ P : Nat, mp = P := by
    have := nine_le mp hp
    exact ⟨mp.toNat, by omega⟩
  obtain ⟨A1, n1, s1, A2, n2, s2, rfl⟩ := carith_oform ha
  simp only at *
  have HOK := Lib.hid hok
  have HP := Lib.hid hp
  have hpr := nine_le _ hp
  have hz1 := z1.out
  have E2 := Lib.hid (D2.out.grown g2 (by simp; omega))
  have E3 := Lib.hid (D3.out.grown g2 (by simp; omega))
  have E5 := Lib.hid (D5.out.grown g2 (by simp; omega))
  have G2 := Lib.hid (gbT (gbW (r := some g) G1.out) g2)
  have S2 := g2.size
  obtain ⟨g6, hg6⟩ : ∃ x, w2.heap.size = x := ⟨_, rfl⟩
  obtain ⟨w3, hw3⟩ : ∃ x : World, w2.alloc (.cells #[.int .i64 P, .slice A1 n1 s1, .slice A2 n2 s2] 29) = x := ⟨_, rfl⟩
  have A3 : Hid (AggO w3 (carith ⟨(P : Int), mst, mou⟩) F (.agg #[.int .i64 P, .slice A1 n1 s1, .slice A2 n2 s2])) := by rw [← hw3]; exact Lib.hid (ha.grow (gbA (gbR _ _) _))
  have B6 : Hid (Blk w3 g6 29 #[.int .i64 P, .slice A1 n1 s1, .slice A2 n2 s2]) := by rw [← hw3, ← hg6]; exact Lib.hid (Blk.new _ _ _)
  have R2 : Hid (Blk w3 w.heap.size 26 #[.int .i64 0, .slice none 0 0]) := by rw [← hw3]; exact Lib.hid (E2.out.grow (gbA (gbR _ _) _))
  have R3 : Hid (Blk w3 (w.heap.size + 1) 29 #[.int .i64 0, .slice none 0 0, .slice none 0 0]) := by rw [← hw3]; exact Lib.hid (E3.out.grow (gbA (gbR _ _) _))
  have R5 : Hid (Blk w3 (w.heap.size + 1 + 1) 31 #[.int .i64 0, .int .i64 0]) := by rw [← hw3]; exact Lib.hid (E5.out.grow (gbA (gbR _ _) _))
  have C3 : Hid (Cur w3 g A n c bs) := by rw [← hw3]; exact Lib.hid (c2.grow (gbA (gbR _ _) _))
  have G3 : Hid (w.grownBy w3 (some g)) := by rw [← hw3]; exact Lib.hid (gbT G2.out (gbW (gbA (gbR _ _) _)))
  have L2 := Lib.hid hl
  have hF3 : Hid (∀ y ∈ F, y < g6) := by rw [← hg6]; exact Lib.hid (fun y hy => ha.lt y hy)
  have h6 : w.heap.size + 3 ≤ g6 := by omega
  have h63 : g6 < w3.heap.size := by rw [← hw3, ← hg6]; simp
  clear hok hp ha hl c2 g2 D2 D3 D5 E2 E3 E5 G2
  go_wp2_with fail
  try rw [hw3]
  try rw [hg6]
  clear hw3 hg6
  refine region_reg6 (T28 w3.heap.size g g6 P A n c bs) [(3, g), (6, g)] (by kernel_rfl) (by kernel_rfl) (by kernel_rfl) T28_st ?_ ?_
  · simp only [hops6, and_true]
    have hoff := C3.out.off
    have LB := HLb.out
    refine ⟨?_, ?_, ?_, ?_, ?_, ?_, ?_, ?_, ?_, ?_, ?_, ?_, ?_, ?_, ?_, ?_, ?_⟩
    rotate_left 1
    · intro f w4 hG pre old hd
      have hGx : Chg (fun y => y = g) w3.drew w4 := hG.mono (T := fun y => y = g) (fun y hy => by obtain ⟨s, hs⟩ := hy; simp at hs; omega)
      have B4 := (B6.out.grow (gbD (gbR w3 none))).chg hGx (by omega)
      have b0 := B4.cell 0
      simp at b0
      simp [depsF, bindE, List.filter_cons, bd_data, bd_chain, bd_guard, bd_phase, bd_text, bd_gc, T28, fAt, onT_at, isV, facC_at] at hd
      simp [puts, dsts, Act.put, hd]
      clear hd
      go_wp2_with fail
      exact ⟨_, rfl, by simp [T28, fAt, onT_at, upd_some, isV], Or.inl (gbR _ _)⟩
    rotate_left 1
    · intro f w4 hG pre old hd
      have C4 := (C3.out.grow (gbD (gbR w3 none))).kept hG (pre g (by simp; omega) (fun s hs => by simp at hs; rcases hs with rfl | rfl <;> kernel_rfl)) (fun hn a ha e => by
        have h2 := hoff hn a ha
        obtain ⟨s, hs⟩ := e
        simp at hs h2
        rcases hs with hs | hs
        · exact h2 hs.2
        · exact h2 hs.2)
      obtain ⟨i9, h9, _, Bc⟩ := C4.blk
      simp [depsF, bindE, List.filter_cons, bd_data, bd_chain, bd_guard, bd_phase, bd_text, bd_gc, T28, fAt, onT_at, isV, facC_at] at hd
      simp [puts, dsts, Act.put, hd]
      clear hd
      have C4 := Lib.hid C4
      have Bc := Lib.hid Bc
      go_wp2_with fail
      refine (l01Below_c _ 4 (by omega) g A n c bs C4.out).mono ?_
      rintro e w5 ⟨x, rfl, hx0, hx1, hc5, hg5⟩
      have hx1 := hx1 (by omega)
      obtain ⟨y, rfl⟩ := Int.eq_ofNat_of_zero_le hx0
      have hch : Chg (fun b => w3.heap.size ≤ b ∨ b = g) w4 w5 := Chg.of hg5 (fun y h => by injection h with h; exact .inr h.symm)
      have Bc := Bc.out
      have hK := T28_keep (lo := w3.heap.size) (gc := g) (g6 := g6) (p := P) (A := A) (n := n) (c := c) (bs := bs) (f := f) (j := 3) (Chg.of (S := fun y => y = g) hg5 (fun y hy => by injection hy with hy; exact hy.symm)) (fun y hy _ => by subst hy; exact ⟨_, _, Bc, by decide⟩) (fun _ => hc5) (fun v ⟨g', u0, u1, q1, q2, q3⟩ => ⟨g', u0, u1, q1, q2, q3.chg (Chg.of (S := fun y => y = g) hg5 (fun y hy => by injection hy with hy; exact hy.symm)) (by omega)⟩) (fun v ⟨g', u0, u1, q1, q2, q3⟩ => ⟨g', u0, u1, q1, q2, q3.chg (Chg.of (S := fun y => y = g) hg5 (fun y hy => by injection hy with hy; exact hy.symm)) (by omega)⟩) (fun _ v ⟨g', A', c', al, q1, q2, q3, q4⟩ => ⟨g', A', c', al, q1, q2, q3.chg (Chg.of (S := fun y => y = g) hg5 (fun y hy => by injection hy with hy; exact hy.symm)) (by omega), q4.typ (Chg.of (S := fun y => y = g) hg5 (fun y hy => by injection hy with hy; exact hy.symm)) (fun y hy _ => by subst hy; exact ⟨_, _, Bc, by decide⟩)⟩)
      have H5 := Lib.hid hc5
      have HCH := Lib.hid hch
      have HK := Lib.hid hK
      clear hc5 hg5 hch hK Bc
      go_wp2_with fail
      exact ⟨_, rfl, ⟨⟨y, rfl, by omega⟩, H5.out⟩, Or.inr ⟨HCH.out, HK.out⟩⟩
    · intro f w4 hG pre old hd
      simp [depsF, bindE, List.filter_cons, bd_data, bd_chain, bd_guard, bd_phase, bd_text, bd_gc, T28, fAt, onT_at, isV, facC_at] at hd
      obtain ⟨⟨y, e16, hy⟩, _⟩ := hd
      have hy' : (y : Int) < 4 := by omega
      simp [puts, dsts, Act.put, e16]
      go_wp2_with fail
      exact ⟨_, rfl, ⟨y + 1, by rw [show (1 + (y : Int)) = ((y + 1 : Nat) : Int) by omega]; rfl, by omega, by omega⟩, Or.inl (gbR _ _)⟩
    rotate_left 1
    · intro f w4 hG pre old hd
      simp [depsF, bindE, List.filter_cons, bd_data, bd_chain, bd_guard, bd_phase, bd_text, bd_gc, T28, fAt, onT_at, isV, facC_at] at hd
      obtain ⟨e18, _, C4⟩ := hd
      obtain ⟨i9, h9, _, Bc⟩ := C4.blk
      simp [puts, dsts, Act.put, e18]
      have C4 := Lib.hid C4
      have Bc := Lib.hid Bc
      go_wp2_with fail
      refine (l04Tape_c _ g A n c bs C4.out).mono ?_
      rintro e w5 ⟨sx, ax, rfl, hs5, ha5, hc5, hg5⟩
      have hch : Chg (fun b => w3.heap.size ≤ b ∨ b = g) w4 w5 := Chg.of hg5 (fun y h => by injection h with h; exact .inr h.symm)
      have Bc := Bc.out
      have hK := T28_keep (lo := w3.heap.size) (gc := g) (g6 := g6) (p := P) (A := A) (n := n) (c := c) (bs := bs) (f := f) (j := 6) (Chg.of (S := fun y => y = g) hg5 (fun y hy => by injection hy with hy; exact hy.symm)) (fun y hy _ => by subst hy; exact ⟨_, _, Bc, by decide⟩) (fun _ => hc5) (fun v ⟨g', u0, u1, q1, q2, q3⟩ => ⟨g', u0, u1, q1, q2, q3.chg (Chg.of (S := fun y => y = g) hg5 (fun y hy => by injection hy with hy; exact hy.symm)) (by omega)⟩) (fun v ⟨g', u0, u1, q1, q2, q3⟩ => ⟨g', u0, u1, q1, q2, q3.chg (Chg.of (S := fun y => y = g) hg5 (fun y hy => by injection hy with hy; exact hy.symm)) (by omega)⟩) (fun _ v ⟨g', A', c', al, q1, q2, q3, q4⟩ => ⟨g', A', c', al, q1, q2, q3.chg (Chg.of (S := fun y => y = g) hg5 (fun y hy => by injection hy with hy; exact hy.symm)) (by omega), q4.typ (Chg.of (S := fun y => y = g) hg5 (fun y hy => by injection hy with hy; exact hy.symm)) (fun y hy _ => by subst hy; exact ⟨_, _, Bc, by decide⟩)⟩)
      have H5 := Lib.hid hc5
      have HCH := Lib.hid hch
      have HK := Lib.hid hK
      clear hc5 hg5 hch hK Bc
      go_wp2_with fail
      exact ⟨_, rfl, ⟨⟨sx, ax, rfl, hs5, ha5⟩, H5.out⟩, Or.inr ⟨HCH.out, HK.out⟩⟩
    · intro f w4 hG pre old hd
      simp [depsF, bindE, List.filter_cons, bd_data, bd_chain, bd_guard, bd_phase, bd_text, bd_gc, T28, fAt, onT_at, isV, facC_at] at hd
      obtain ⟨e14, ⟨nk, e17, h1, h5⟩, ⟨sx, ax, e19, hs5, ha5⟩, _⟩ := hd
      simp [puts, dsts, Act.put, e14, e17, e19]
      go_wp2_with fail
      refine (specKeysNew_yes P sx ax nk w4 HOK.out.fld h1 h5 hs5 (by omega)).mono ?_
      rintro e w5 ⟨A9, c9, t9, rfl, o9, g9⟩
      have hKR : keyR P (tapeL sx ax P nk) A9 c9 w5 := ⟨keys_tape HOK.out.fld h1 h5, by rw [tapeL_len]; exact own_base o9 (Nat.zero_le _)⟩
      have HKR := Lib.hid hKR
      have G9 := Lib.hid g9
      clear o9 g9 hKR
      go_wp2_with fail
      exact ⟨_, rfl, ⟨A9, c9, _, _, _, by rw [tapeL_len]; rfl, HKR.out⟩, Or.inl G9.out⟩
    · intro f w4 hG pre old hd
      simp [depsF, bindE, List.filter_cons, bd_data, bd_chain, bd_guard, bd_phase, bd_text, bd_gc, T28, fAt, onT_at, isV, facC_at] at hd
      obtain ⟨A9, c9, al, s9, t9, e20, h20⟩ := hd
      have h20 := Lib.hid h20
      simp [puts, dsts, Act.put, e20]
      go_wp2_with fail
      exact ⟨_, rfl, ⟨A9, c9, al, s9, t9, rfl, h20.out⟩, Or.inl (gbR _ _)⟩
    · intro f w4 hG pre old hd
      simp [depsF, bindE, List.filter_cons, bd_data, bd_chain, bd_guard, bd_phase, bd_text, bd_gc, T28, fAt, onT_at, isV, facC_at] at hd
      obtain ⟨A9, c9, al, s9, t9, e12, h20⟩ := hd
      have h20 := Lib.hid h20
      simp [puts, dsts, Act.put, e12]
      go_wp2_with fail
      exact ⟨_, rfl, ⟨A9, c9, al, rfl, h20.out⟩, Or.inl (gbR _ _)⟩
    · intro f w4 hG pre old hd
      simp [depsF, bindE, List.filter_cons, bd_data, bd_chain, bd_guard, bd_phase, bd_text, bd_gc, T28, fAt, onT_at, isV, facC_at] at hd
      obtain ⟨A9, c9, al, s9, t9, e12, h20⟩ := hd
      clear h20
      simp [puts, dsts, Act.put, e12]
      go_wp2_with fail
      exact ⟨_, rfl, ⟨s9, t9, rfl⟩, Or.inl (gbR _ _)⟩
    · intro f w4 hG pre old hd
      simp [depsF, bindE, List.filter_cons, bd_data, bd_chain, bd_guard, bd_phase, bd_text, bd_gc, T28, fAt, onT_at, isV, facC_at] at hd
      obtain ⟨A9, c9, al, s9, t9, e12, h20⟩ := hd
      clear h20
      simp [puts, dsts, Act.put, e12]
      go_wp2_with fail
      exact ⟨_, rfl, by simp [T28, fAt, onT_at, upd_some, isV], Or.inl (gbR _ _)⟩
    · intro f w4 hG pre old hd
      have hz4 := hG.size
      simp at hz4
      clear hd
      simp [puts, dsts, Act.put]
      go_wp2_with fail
      exact ⟨_, rfl, ⟨_, _, _, rfl, hz4, Blk.new _ _ _⟩, Or.inl (gbA (gbR _ _) _)⟩
    · intro f w4 hG pre old hd
      have hz4 := hG.size
      simp at hz4
      clear hd
      simp [puts, dsts, Act.put]
      go_wp2_with fail
      exact ⟨_, rfl, ⟨_, _, _, rfl, hz4, Blk.new _ _ _⟩, Or.inl (gbA (gbR _ _) _)⟩
    · intro f w4 hG pre old hd
      simp [depsF, bindE, List.filter_cons, bd_data, bd_chain, bd_guard, bd_phase, bd_text, bd_gc, T28, fAt, onT_at, isV, facC_at] at hd
      obtain ⟨⟨g9, u0, u1, e7, hg9, R4⟩, ⟨A9, c9, al, e21, hkr⟩, -⟩ := hd
      have f0 := R4.frozen 0
      have f1 := R4.frozen 1
      have b0 := R4.cell 0
      have b1 := R4.cell 1
      simp at b0 b1
      have CH := chg_setCells g9 [.int .i64 P, .slice A9 al.length c9] 0 w4
      have RS := blk_setCells R4 [.int .i64 P, .slice A9 al.length c9] rfl
      have hkr' := hkr.typ CH (fun y hy _ => by subst hy; exact ⟨_, _, R4, by decide⟩)
      have hK := T28_keep (lo := w3.heap.size) (gc := g) (g6 := g6) (p := P) (A := A) (n := n) (c := c) (bs := bs) (f := f) (j := 14) CH (fun y hy _ => by subst hy; exact ⟨_, _, R4, by decide⟩) (fun h => h.kept CH (CH.block g h.lt (by omega)) (fun hn a ha e => by have := LB hn a ha; omega)) (fun v h => boxA_set h R4 RS CH) (fun v h => boxA_set h R4 RS CH) (fun e => absurd rfl e)
      have KK : boxKK P w3.heap.size (.pointer (some ⟨g9, 0, none⟩)) (setCells w4 g9 0 [.int .i64 P, .slice A9 al.length c9]) := ⟨g9, A9, c9, al, rfl, hg9, RS, hkr'⟩
      have CM := CH.mono (T := fun b => w3.heap.size ≤ b) (fun y hy => by rw [hy]; exact hg9)
      simp only [setCells, Nat.zero_add, Nat.reduceAdd] at hK KK CM
      have HK := Lib.hid hK
      have HKK := Lib.hid KK
      have HCM := Lib.hid CM
      clear CH RS hkr' hK KK CM hkr R4
      simp [puts, dsts, Act.put, e7, e21]
      go_wp2_with fail
      exact ⟨rfl, ⟨.bool false, by show boxKK P _ (f 7) _; rw [e7]; exact HKK.out⟩, Or.inr ⟨by simpa using HCM.out, HK.out⟩⟩
    · intro f w4 hG pre old hd
      simp [depsF, bindE, List.filter_cons, bd_data, bd_chain, bd_guard, bd_phase, bd_text, bd_gc, T28, fAt, onT_at, isV, facC_at] at hd
      obtain ⟨⟨g9, u0, u1, e8, hg9, R4⟩, ⟨s9, t9, e22⟩, -⟩ := hd
      have f0 := R4.frozen 0
      have f1 := R4.frozen 1
      have b0 := R4.cell 0
      have b1 := R4.cell 1
      simp at b0 b1
      have CH := chg_setCells g9 [.int .i64 s9, .int .i64 t9] 0 w4
      have RS := blk_setCells R4 [.int .i64 s9, .int .i64 t9] rfl
      have hK := T28_keep (lo := w3.heap.size) (gc := g) (g6 := g6) (p := P) (A := A) (n := n) (c := c) (bs := bs) (f := f) (j := 15) CH (fun y hy _ => by subst hy; exact ⟨_, _, R4, by decide⟩) (fun h => h.kept CH (CH.block g h.lt (by omega)) (fun hn a ha e => by have := LB hn a ha; omega)) (fun v h => boxA_set h R4 RS CH) (fun v h => boxA_set h R4 RS CH) (fun _ v ⟨g', A', c', al, q1, q2, q3, q4⟩ => ⟨g', A', c', al, q1, q2, q3.chg CH (blk_ne q3 R4 (by decide)), q4.typ CH (fun y hy _ => by subst hy; exact ⟨_, _, R4, by decide⟩)⟩)
      have CM := CH.mono (T := fun b => w3.heap.size ≤ b) (fun y hy => by rw [hy]; exact hg9)
      simp only [setCells, Nat.zero_add, Nat.reduceAdd] at hK CM
      have HK := Lib.hid hK
      have HCM := Lib.hid CM
      clear CH RS hK CM R4
      simp [puts, dsts, Act.put, e8, e22]
      go_wp2_with fail
      exact ⟨rfl, ⟨.bool false, trivial⟩, Or.inr ⟨by simpa using HCM.out, HK.out⟩⟩
    · intro f w4 hG pre old hd
      simp [depsF, bindE, List.filter_cons, bd_data, bd_chain, bd_guard, bd_phase, bd_text, bd_gc, T28, fAt, onT_at, isV, facC_at] at hd
      obtain ⟨e23, -⟩ := hd
      simp [puts, dsts, Act.put, e23]
      go_wp2_with fail
      exact ⟨_, rfl, trivial, Or.inl (gbR _ _)⟩
    all_goals
      intro f w4 hG pre old hd
      clear hd
      simp [puts, dsts, Act.put]
      go_wp2_with fail
      exact ⟨_, rfl, by simp [T28, fAt, onT_at, upd_some, isV], Or.inl (gbR _ _)⟩
  · intro f w5 hG hd
    simp [knowsF, T28, onT_at, isV, facC_at, noF_at] at hd
    obtain ⟨h13, h14, h15, ⟨h16, _⟩, h17, h18, ⟨h19, hC⟩, h20, h12, h21, h22, h23, h7, h8, hKK⟩ := hd
    have hKK : boxKK P w3.heap.size (f 7) w5 := hKK
    have hGx : Chg (fun y => y = g) w3 w5 := (Chg.of (gbD (gbR w3 none)) (by simp)).trans (hG.mono (T := fun y => y = g) (fun y hy => by obtain ⟨s, hs⟩ := hy; simp at hs; omega))
    obtain ⟨g7, A9, c9, al, e7, hg7, B7, hKR⟩ := hKK
    have Q2 := Lib.hid (R2.out.chg hGx (by omega))
    have Q3 := Lib.hid (R3.out.chg hGx (by omega))
    have Q5 := Lib.hid (R5.out.chg hGx (by omega))
    have Q6 := Lib.hid (B6.out.chg hGx (by omega))
    have Q7 := Lib.hid B7
    have KR := Lib.hid hKR
    have A5 := Lib.hid (A3.out.chg hGx (fun y hy e => by have := L2.out y hy; omega))
    have C5 := Lib.hid hC
    have HGX := Lib.hid hGx
    have hz5 := hGx.size
    have hg75 := B7.lt
    simp only [puts, dsts, Act.put, e7, List.filterMap_cons, List.filterMap_nil, List.setIfInBounds_toArray, List.set_cons_zero, List.set_cons_succ]
    clear h13 h14 h15 h16 h17 h18 h19 h20 h12 h21 h22 h23 h7 h8 hC B7 hKR hGx hG e7 R2 R3 R5 B6 A3 C3
    have hn6 : g6 ≠ g := by omega
    have hn7 : g7 ≠ g := by omega
    have LB := HLb.out
    have hsm : w.heap.size + 3 ≤ w5.heap.size := by omega
    go_wp2_with fail
    refine region_chain [.rd (.agg #[.int .i64 P, .slice A9 al.length c9]), .rd (.agg #[.int .i64 P, .slice A1 n1 s1, .slice A2 n2 s2]), .rd (.pointer (some ⟨g, 0, none⟩)), .rd (.pointer (some ⟨g6, 0, none⟩)), .rd (.int .i64 P), .ch, .rd (.pointer (some ⟨g, 0, none⟩)), .ch, .ch, .ch, .ch, .ch] (fun z => z = g ∨ z = w.heap.size ∨ z = w.heap.size + 1 ∨ z = w.heap.size + 1 + 1)
      [⟨[], fun _ w' => w' = w5.drew⟩,
       ⟨[29], fun l w' => S28 w5 g w.heap.size P A n c bs #[.int .i64 0, .slice none 0 0] #[.int .i64 0, .slice none 0 0, .slice none 0 0] #[.int .i64 0, .int .i64 0] (l.getD 0 undef) w'⟩,
       ⟨[29, 31], fun l w' => S28 w5 g w.heap.size P A n c bs #[.int .i64 0, .slice none 0 0] #[.int .i64 0, .slice none 0 0, .slice none 0 0] #[.int .i64 0, .int .i64 0] (l.getD 0 undef) w' ∧ isTp (l.getD 1 undef)⟩,
       ⟨[29, 31], fun l w' => S28 w5 g w.heap.size P A n c bs #[.int .i64 P, .slice A9 al.length c9] #[.int .i64 0, .slice none 0 0, .slice none 0 0] #[.int .i64 0, .int .i64 0] (l.getD 0 undef) w' ∧ isTp (l.getD 1 undef)⟩,
       ⟨[29, 31], fun l w' => S28 w5 g w.heap.size P A n c bs #[.int .i64 P, .slice A9 al.length c9] #[.int .i64 P, .slice A1 n1 s1, .slice A2 n2 s2] #[.int .i64 0, .int .i64 0] (l.getD 0 undef) w' ∧ isTp (l.getD 1 undef)⟩,
       ⟨[4, 31], fun l w' => S28 w5 g w.heap.size P A n c bs #[.int .i64 P, .slice A9 al.length c9] #[.int .i64 P, .slice A1 n1 s1, .slice A2 n2 s2] #[.int .i64 0, .int .i64 0] (l.getD 0 undef) w' ∧ isTp (l.getD 1 undef)⟩,
       ⟨[4], fun l w' => insR w5.heap.size P (l.getD 0 undef) w' ∧ (∃ s a : Nat, s < 4294967296 ∧ a < 50 ∧ Blk w' (w.heap.size + 1 + 1) 31 #[.int .i64 s, .int .i64 a]) ∧ Cur w' g A n c bs ∧ Blk w' w.heap.size 26 #[.int .i64 P, .slice A9 al.length c9] ∧ Blk w' (w.heap.size + 1) 29 #[.int .i64 P, .slice A1 n1 s1, .slice A2 n2 s2] ∧ Chg (fun y => y = g ∨ y = w.heap.size ∨ y = w.heap.size + 1 ∨ y = w.heap.size + 1 + 1) w5.drew w'⟩]
      (by kernel_rfl) (by kernel_rfl) (by kernel_rfl) 6 (by kernel_rfl) (by simp only [flOk, and_true]) rfl rfl ?_ ?_
    · simp only [hopsK, hopK, Kd.next, and_true]
      refine ⟨?_, ?_, ?_, ?_, ?_, ?_, ?_, ?_, ?_, ?_, ?_, ?_⟩
      · intro f w4 hG hd
        have B4 := (Q7.out.grow (gbD (gbR w5 none))).chg hG (by omega)
        have b0 := B4.cell 0
        have b1 := B4.cell 1
        simp at b0 b1
        (try simp [depsC, dstAt, kAt, bindE, List.filter_cons, bd_data, bd_chain, bd_guard, bd_phase, bd_text, bd_gc] at hd)
        (first | simp [puts, dsts, Act.put, hd] | simp [puts, dsts, Act.put])
        clear hd
        go_wp2_with fail
        exact ⟨rfl, rfl⟩
      · intro f w4 hG hd
        have B4 := (Q6.out.grow (gbD (gbR w5 none))).chg hG (by omega)
        have b0 := B4.cell 0
        have b1 := B4.cell 1
        have b2 := B4.cell 2
        simp at b0 b1 b2
        (try simp [depsC, dstAt, kAt, bindE, List.filter_cons, bd_data, bd_chain, bd_guard, bd_phase, bd_text, bd_gc] at hd)
        (first | simp [puts, dsts, Act.put, hd] | simp [puts, dsts, Act.put])
        clear hd
        go_wp2_with fail
        exact ⟨rfl, rfl⟩
      · intro f w4 hG hd
        (try simp [depsC, dstAt, kAt, bindE, List.filter_cons, bd_data, bd_chain, bd_guard, bd_phase, bd_text, bd_gc] at hd)
        (first | simp [puts, dsts, Act.put, hd] | simp [puts, dsts, Act.put])
        clear hd
        go_wp2_with fail
        exact ⟨rfl, rfl⟩
      · intro f w4 hG hd
        (try simp [depsC, dstAt, kAt, bindE, List.filter_cons, bd_data, bd_chain, bd_guard, bd_phase, bd_text, bd_gc] at hd)
        (first | simp [puts, dsts, Act.put, hd] | simp [puts, dsts, Act.put])
        clear hd
        go_wp2_with fail
        exact ⟨rfl, rfl⟩
      · intro f w4 hG hd
        have B4 := (Q6.out.grow (gbD (gbR w5 none))).chg hG (by omega)
        have b0 := B4.cell 0
        simp at b0
        (try simp [depsC, dstAt, kAt, bindE, List.filter_cons, bd_data, bd_chain, bd_guard, bd_phase, bd_text, bd_gc] at hd)
        (first | simp [puts, dsts, Act.put, hd] | simp [puts, dsts, Act.put])
        clear hd
        go_wp2_with fail
        exact ⟨rfl, rfl⟩
      · intro f w4 hG hI hd
        have hI : w4 = w5.drew := hI
        subst hI
        (try simp [depsC, dstAt, kAt, bindE, List.filter_cons, bd_data, bd_chain, bd_guard, bd_phase, bd_text, bd_gc] at hd)
        (first | simp [puts, dsts, Act.put, hd] | simp [puts, dsts, Act.put])
        clear hd
        go_wp2_with fail
        refine (l27Input_c _ P (by omega) (by omega) g A n c bs (C5.out.grow (gbD (gbR w5 none)))).mono ?_
        rintro e w6 ⟨v, ins, rfl, o6, l6, r6, c6, g6'⟩
        obtain ⟨I, ci, rfl, hci, _, _⟩ := own_rd2 o6
        have HIN : insR w5.heap.size P (.slice I 60 ci) w6 := ⟨I, ci, ins, rfl, hci, l6, r6, own_base o6 (by simp)⟩
        have CG : Chg (fun y => y = g ∨ y = w.heap.size ∨ y = w.heap.size + 1 ∨ y = w.heap.size + 1 + 1) w5.drew w6 := Chg.of g6' (fun y hy => by injection hy with hy; exact .inl hy.symm)
        have HS : Hid (S28 w5 g w.heap.size P A n c bs #[.int .i64 0, .slice none 0 0] #[.int .i64 0, .slice none 0 0, .slice none 0 0] #[.int .i64 0, .int .i64 0] (.slice I 60 ci) w6) := Lib.hid ⟨HIN, c6, (Q2.out.grow (gbD (gbR w5 none))).grown g6' (by simp; omega), (Q3.out.grow (gbD (gbR w5 none))).grown g6' (by simp; omega), (Q5.out.grow (gbD (gbR w5 none))).grown g6' (by simp; omega), CG⟩
        have HCG := Lib.hid CG
        clear o6 c6 g6' HIN CG
        go_wp2_with fail
        exact ⟨_, rfl, HS.out, HCG.out, by simp [keepsC]⟩
      · intro f w4 hG hd
        (try simp [depsC, dstAt, kAt, bindE, List.filter_cons, bd_data, bd_chain, bd_guard, bd_phase, bd_text, bd_gc] at hd)
        (first | simp [puts, dsts, Act.put, hd] | simp [puts, dsts, Act.put])
        clear hd
        go_wp2_with fail
        exact ⟨rfl, rfl⟩
      · intro f w4 hG hI hd
        have hS0 : S28 w5 g w.heap.size P A n c bs #[.int .i64 0, .slice none 0 0] #[.int .i64 0, .slice none 0 0, .slice none 0 0] #[.int .i64 0, .int .i64 0] (f 29) w4 := hI
        obtain ⟨hin, hcur, q2, q3, q5, qc⟩ := hS0
        have hsz := qc.size
        simp at hsz
        (try simp [depsC, dstAt, kAt, bindE, List.filter_cons, bd_data, bd_chain, bd_guard, bd_phase, bd_text, bd_gc] at hd)
        (first | simp [puts, dsts, Act.put, hd] | simp [puts, dsts, Act.put])
        clear hd hI
        have HCUR := Lib.hid hcur
        clear hcur
        go_wp2_with fail
        refine (l04Tape_c _ g A n c bs HCUR.out).mono ?_
        rintro e w6 ⟨sx, ax, rfl, hsx, hax, c6, g6'⟩
        have CG : Chg (fun y => y = g) w4 w6 := Chg.of g6' (fun y hy => by injection hy with hy; exact hy.symm)
        have CW := CG.mono (T := fun y => y = g ∨ y = w.heap.size ∨ y = w.heap.size + 1 ∨ y = w.heap.size + 1 + 1) (fun y hy => .inl hy)
        have HS : Hid (S28 w5 g w.heap.size P A n c bs #[.int .i64 0, .slice none 0 0] #[.int .i64 0, .slice none 0 0, .slice none 0 0] #[.int .i64 0, .int .i64 0] (f 29) w6) := Lib.hid ⟨hin.chg CG (fun y hy => by omega), c6, q2.chg CG (by omega), q3.chg CG (by omega), q5.chg CG (by omega), qc.trans CW⟩
        have HCG := Lib.hid CW
        clear c6 g6' CG CW hin q2 q3 q5 qc
        go_wp2_with fail
        exact ⟨_, rfl, ⟨HS.out, sx, ax, rfl, hsx, hax⟩, HCG.out, by simp [keepsC]⟩
      · intro f w4 hG hI hd
        have hS0 : S28 w5 g w.heap.size P A n c bs #[.int .i64 0, .slice none 0 0] #[.int .i64 0, .slice none 0 0, .slice none 0 0] #[.int .i64 0, .int .i64 0] (f 29) w4 ∧ isTp (f 31) := hI
        obtain ⟨⟨hin, hcur, q2, q3, q5, qc⟩, htp⟩ := hS0
        (try simp [depsC, dstAt, kAt, bindE, List.filter_cons, bd_data, bd_chain, bd_guard, bd_phase, bd_text, bd_gc] at hd)
        have e24 : f 24 = .agg #[.int .i64 P, .slice A9 al.length c9] := by first | exact hd | exact hd.1 | exact hd.2 | exact hd.2.1
        clear hd hI
        have f0 := q2.frozen 0
        have f1 := q2.frozen 1
        have b0 := q2.cell 0
        have b1 := q2.cell 1
        simp at b0 b1
        have CH := chg_setCells w.heap.size [.int .i64 P, .slice A9 al.length c9] 0 w4
        have RS := blk_setCells q2 [.int .i64 P, .slice A9 al.length c9] rfl
        have CW := CH.mono (T := fun y => y = g ∨ y = w.heap.size ∨ y = w.heap.size + 1 ∨ y = w.heap.size + 1 + 1) (fun y hy => .inr (.inl hy))
        have HS : S28 w5 g w.heap.size P A n c bs #[.int .i64 P, .slice A9 al.length c9] #[.int .i64 0, .slice none 0 0, .slice none 0 0] #[.int .i64 0, .int .i64 0] (f 29) (setCells w4 w.heap.size 0 [.int .i64 P, .slice A9 al.length c9]) := ⟨hin.chg CH (fun y hy => by omega), hcur.kept CH (CH.block g hcur.lt (by omega)) (fun hn a ha e => by have := LB hn a ha; omega), RS, q3.chg CH (by omega), q5.chg CH (by omega), qc.trans CW⟩
        simp only [setCells, Nat.zero_add, Nat.reduceAdd] at HS CW
        have HSH := Lib.hid HS
        have HCG := Lib.hid CW
        clear CH RS CW HS hin hcur q2 q3 q5 qc
        simp [puts, dsts, Act.put, e24]
        go_wp2_with fail
        exact ⟨rfl, ⟨.bool false, HSH.out, htp⟩, HCG.out, by simp [keepsC]⟩
      · intro f w4 hG hI hd
        have hS0 : S28 w5 g w.heap.size P A n c bs #[.int .i64 P, .slice A9 al.length c9] #[.int .i64 0, .slice none 0 0, .slice none 0 0] #[.int .i64 0, .int .i64 0] (f 29) w4 ∧ isTp (f 31) := hI
        obtain ⟨⟨hin, hcur, q2, q3, q5, qc⟩, htp⟩ := hS0
        (try simp [depsC, dstAt, kAt, bindE, List.filter_cons, bd_data, bd_chain, bd_guard, bd_phase, bd_text, bd_gc] at hd)
        have e25 : f 25 = .agg #[.int .i64 P, .slice A1 n1 s1, .slice A2 n2 s2] := by first | exact hd | exact hd.1 | exact hd.2 | exact hd.2.1
        clear hd hI
        have f0 := q3.frozen 0
        have f1 := q3.frozen 1
        have f2 := q3.frozen 2
        have b0 := q3.cell 0
        have b1 := q3.cell 1
        have b2 := q3.cell 2
        simp at b0 b1 b2
        have CH := chg_setCells (w.heap.size + 1) [.int .i64 P, .slice A1 n1 s1, .slice A2 n2 s2] 0 w4
        have RS := blk_setCells q3 [.int .i64 P, .slice A1 n1 s1, .slice A2 n2 s2] rfl
        have CW := CH.mono (T := fun y => y = g ∨ y = w.heap.size ∨ y = w.heap.size + 1 ∨ y = w.heap.size + 1 + 1) (fun y hy => .inr (.inr (.inl hy)))
        have HS : S28 w5 g w.heap.size P A n c bs #[.int .i64 P, .slice A9 al.length c9] #[.int .i64 P, .slice A1 n1 s1, .slice A2 n2 s2] #[.int .i64 0, .int .i64 0] (f 29) (setCells w4 (w.heap.size + 1) 0 [.int .i64 P, .slice A1 n1 s1, .slice A2 n2 s2]) := ⟨hin.chg CH (fun y hy => by omega), hcur.kept CH (CH.block g hcur.lt (by omega)) (fun hn a ha e => by have := LB hn a ha; omega), q2.chg CH (by omega), RS, q5.chg CH (by omega), qc.trans CW⟩
        simp only [setCells, Nat.zero_add, Nat.reduceAdd] at HS CW
        have HSH := Lib.hid HS
        have HCG := Lib.hid CW
        clear CH RS CW HS hin hcur q2 q3 q5 qc
        simp [puts, dsts, Act.put, e25]
        go_wp2_with fail
        exact ⟨rfl, ⟨.bool false, HSH.out, htp⟩, HCG.out, by simp [keepsC]⟩
      · intro f w4 hG hI hd
        have hS0 : S28 w5 g w.heap.size P A n c bs #[.int .i64 P, .slice A9 al.length c9] #[.int .i64 P, .slice A1 n1 s1, .slice A2 n2 s2] #[.int .i64 0, .int .i64 0] (f 29) w4 ∧ isTp (f 31) := hI
        obtain ⟨hS1, htp⟩ := hS0
        obtain ⟨I, ci, ins, e29, _⟩ := hS1.1
        rw [e29] at hS1
        have HS1 := Lib.hid hS1
        clear hd hI hS1
        simp [puts, dsts, Act.put, e29]
        go_wp2_with fail
        exact ⟨_, rfl, ⟨HS1.out, htp⟩, Chg.refl _ _, by simp [keepsC]⟩
      · intro f w4 hG hI hd
        have hS0 : S28 w5 g w.heap.size P A n c bs #[.int .i64 P, .slice A9 al.length c9] #[.int .i64 P, .slice A1 n1 s1, .slice A2 n2 s2] #[.int .i64 0, .int .i64 0] (f 4) w4 ∧ isTp (f 31) := hI
        obtain ⟨⟨hin, hcur, q2, q3, q5, qc⟩, sx, ax, e31, hsx, hax⟩ := hS0
        clear hd hI
        have f0 := q5.frozen 0
        have f1 := q5.frozen 1
        have b0 := q5.cell 0
        have b1 := q5.cell 1
        simp at b0 b1
        have CH := chg_setCells (w.heap.size + 1 + 1) [.int .i64 sx, .int .i64 ax] 0 w4
        have RS := blk_setCells q5 [.int .i64 sx, .int .i64 ax] rfl
        have CW := CH.mono (T := fun y => y = g ∨ y = w.heap.size ∨ y = w.heap.size + 1 ∨ y = w.heap.size + 1 + 1) (fun y hy => .inr (.inr (.inr hy)))
        have R1 := hin.chg CH (fun y hy => by omega)
        have R2 := hcur.kept CH (CH.block g hcur.lt (by omega)) (fun hn a ha e => by have := LB hn a ha; omega)
        have R3 := q2.chg CH (by omega)
        have R4 := q3.chg CH (by omega)
        have R5 := qc.trans CW
        simp only [setCells, Nat.zero_add, Nat.reduceAdd] at RS R1 R2 R3 R4 R5
        have H0 := Lib.hid RS
        have H1 := Lib.hid R1
        have H2 := Lib.hid R2
        have H3 := Lib.hid R3
        have H4 := Lib.hid R4
        have H5 := Lib.hid R5
        clear CH RS CW R1 R2 R3 R4 R5 hin hcur q2 q3 q5 qc
        simp [puts, dsts, Act.put, e31]
        go_wp2_with fail
        exact ⟨rfl, .bool false, H1.out, ⟨sx, hsx, ax, hax, H0.out⟩, H2.out, H3.out, H4.out, H5.out⟩
    intro f w9 hI hd
    simp only [puts, dsts, Act.put, List.filterMap_cons, List.filterMap_nil, List.setIfInBounds_toArray, List.set_cons_zero, List.set_cons_succ]
    obtain ⟨hin, ⟨sx, ax, hsx, hax, q5⟩, hcur, q2, q3, qc⟩ := hI
    obtain ⟨I, ci, ins, e4, hci, hil, hir, hio⟩ := hin
    have e4 : f 4 = .slice I 60 ci := e4
    rw [e4]
    have qc := chgDr qc
    obtain ⟨i9, h9, _, Bc⟩ := C5.out.blk
    have hkr := KR.out.typ qc (fun y hy _ => by
      rcases hy with rfl | rfl | rfl | rfl
      · exact ⟨_, _, Bc, by decide⟩
      · exact ⟨_, _, Q2.out, by decide⟩
      · exact ⟨_, _, Q3.out, by decide⟩
      · exact ⟨_, _, Q5.out, by decide⟩)
    have HKA := Lib.hid hkr
    have HFT := Lib.hid (show Fit ⟨(P : Int), al⟩ ⟨(P : Int), mst, mou⟩ P ins from ⟨hkr.1, HOK.out, rfl, rfl, hil, elemsB_mk HOK.out.fld hir⟩)
    have HCA := Lib.hid (A5.out.chg qc (fun y hy e => by have := L2.out y hy; omega))
    have HIN := Lib.hid (own_base hio (show w.heap.size ≤ w5.heap.size by omega))
    have GZ := Lib.hid (gbC (gbC G3.out HGX.out (fun y hy => .inl (by rw [hy]))) qc (fun y hy => by
      rcases hy with rfl | rfl | rfl | rfl
      · exact .inl rfl
      · exact .inr (by omega)
      · exact .inr (by omega)
      · exact .inr (by omega)))
    have HQ2 := Lib.hid q2
    have HQ3 := Lib.hid q3
    have HQ5 := Lib.hid q5
    have HCU := Lib.hid hcur
    clear hd e4 q2 q3 q5 qc hcur hkr hio Bc
    go_wp2_with fail
    refine ret_cctc Try.results45 (by rfl) stKeys (cs := #[.int .i64 P, .slice A9 al.length c9]) HQ2.out (by rfl) (by rfl) stArith (ds := #[.int .i64 P, .slice A1 n1 s1, .slice A2 n2 s2]) HQ3.out (by rfl) (by rfl) stTape (es := #[.int .i64 sx, .int .i64 ax]) HQ5.out (by rfl) (by rfl) ?_
    exact ⟨A9, A1, A2, I, c9, n1, s1, n2, s2, ci, ⟨(P : Int), al⟩, ⟨(P : Int), mst, mou⟩, ins, P, sx, ax, rfl, HFT.out, HP.out, hst, hou, hsx, hax, HKA.out, ⟨_, HCA.out, fun y hy => by have := L2.out y hy; omega⟩, HIN.out, hci, HCU.out, GZ.out⟩
def DrawCJ (w : World) (e : Ending) (w' : World) : Prop :=
  ∃ (KA A1 A2 I : Option Addr) (kc n1 s1 n2 s2 ci : Nat) (k : KM) (m : AM) (ins : List Int) (P s a : Nat),
    e = .returned (.tuple #[.agg #[.int .i64 k.p, .slice KA k.al.length kc], .agg #[.int .i64 m.p, .slice A1 n1 s1, .slice A2 n2 s2], .slice I 60 ci, .agg #[.int .i64 s, .int .i64 a]]) ∧
    Fit k m P ins ∧ m.p ∈ nine ∧ (1 ≤ m.st.length ∧ m.st.length ≤ 14) ∧ m.outs.length ≤ 3 ∧ s < 4294967296 ∧ a < 50 ∧
    AggR w' (ckeys k) (.agg #[.int .i64 k.p, .slice KA k.al.length kc]) ∧ AggR w' (carith m) (.agg #[.int .i64 m.p, .slice A1 n1 s1, .slice A2 n2 s2]) ∧ Ints w' I 60 ins ∧ 60 ≤ ci ∧ w.grownBy w' none
set_option maxHeartbeats 2000000 in
theorem DrawComputation_c (w : World) (A : Option Addr) (n c : Nat) (bs : List Int) (h : BytesIn w A n bs) :
    Calls Try.prog 9 #[.slice A n c] w (DrawCJ w) := by
  have H := Lib.hid h
  clear h
  go_enter Try.func9, Try.ntmps9
  go_wp2_with fail
  refine (l01New_c _ A n c bs (H.out.grow (gbA (gbA (gbA (gbR _ _) _) _) _))).mono ?_
  rintro e w1 ⟨rfl, hc1, hg1, hz1⟩
  have HC := Lib.hid (show Cur w1 (w.heap.size + 3) A n c bs by simpa using hc1)
  have B2 := Lib.hid ((((Blk.new w 26 #[.int .i64 0, .slice none 0 0]).grow (gbA (gbR _ _) (.cells #[.int .i64 0, .slice none 0 0, .slice none 0 0] 29))).grow (gbA (gbR _ _) (.cells #[.int .i64 0, .int .i64 0] 31))).grow hg1)
  have B3 := Lib.hid (((Blk.new' (w.alloc (.cells #[.int .i64 0, .slice none 0 0] 26)) 29 #[.int .i64 0, .slice none 0 0, .slice none 0 0] (w.heap.size + 1) (by simp)).grow (gbA (gbR _ _) (.cells #[.int .i64 0, .int .i64 0] 31))).grow hg1)
  have B5 := Lib.hid ((Blk.new' ((w.alloc (.cells #[.int .i64 0, .slice none 0 0] 26)).alloc (.cells #[.int .i64 0, .slice none 0 0, .slice none 0 0] 29)) 31 #[.int .i64 0, .int .i64 0] (w.heap.size + 1 + 1) (by simp)).grow hg1)
  have G1 := Lib.hid (gbT (gbA (gbA (gbA (gbR w none) (.cells #[.int .i64 0, .slice none 0 0] 26)) (.cells #[.int .i64 0, .slice none 0 0, .slice none 0 0] 29)) (.cells #[.int .i64 0, .int .i64 0] 31)) hg1)
  clear hc1 hg1 hz1
  go_wp2_with fail
  refine (l28Case_c _ (w.heap.size + 3) A n c bs HC.out).mono ?_
  rintro e w2 ⟨KA, A1, A2, I, kc, n1, s1, n2, s2, ci, k, m, ins, P, s, a, rfl, h1, h2, h3, h4, h5, h6, h7, ⟨F, h8, h8'⟩, h9, h10, _, hg⟩
  have hz1 := G1.out.size
  have hzz : w.heap.size + 4 ≤ w1.heap.size := by have := HC.out.lt; omega
  have E2 := Lib.hid (B2.out.grown hg (by simp))
  have E3 := Lib.hid (B3.out.grown hg (by simp))
  have E5 := Lib.hid (B5.out.grown hg (by simp))
  have G2 := Lib.hid (gbN G1.out hg (fun b e => by injection e with e; omega))
  have H1 := Lib.hid h1
  have H2 := Lib.hid h2
  have H7 := Lib.hid h7
  have H8 := Lib.hid h8
  have H8' := Lib.hid h8'
  have H9 := Lib.hid h9
  have b0 := E2.out.cell 0
  have b1 := E2.out.cell 1
  have c0 := E3.out.cell 0
  have c1 := E3.out.cell 1
  have c2 := E3.out.cell 2
  have d0 := E5.out.cell 0
  have d1 := E5.out.cell 1
  have f0 := E2.out.frozen 0
  have f1 := E2.out.frozen 1
  have f2 := E3.out.frozen 0
  have f3 := E3.out.frozen 1
  have f4 := E3.out.frozen 2
  have f5 := E5.out.frozen 0
  have f6 := E5.out.frozen 1
  simp at b0 b1 c0 c1 c2 d0 d1
  clear hg h1 h2 h7 h8 h8' h9 B2 B3 B5 HC
  go_wp2_with fail
  clear b0 b1 c0 c1 c2 d0 d1 f0 f1 f2 f3 f4 f5 f6
  have CA := chg_setCells w.heap.size [.int .i64 k.p, .slice KA k.al.length kc] 0 w2
  have CB := chg_setCells (w.heap.size + 1) [.int .i64 m.p, .slice A1 n1 s1, .slice A2 n2 s2] 0 (setCells w2 w.heap.size 0 [.int .i64 k.p, .slice KA k.al.length kc])
  have CC := chg_setCells (w.heap.size + 1 + 1) [.int .i64 s, .int .i64 a] 0 (setCells (setCells w2 w.heap.size 0 [.int .i64 k.p, .slice KA k.al.length kc]) (w.heap.size + 1) 0 [.int .i64 m.p, .slice A1 n1 s1, .slice A2 n2 s2])
  have R2 := ((blk_setCells E2.out [.int .i64 k.p, .slice KA k.al.length kc] rfl).chg CB (by omega)).chg CC (by omega)
  have R3 := (blk_setCells (E3.out.chg CA (by omega)) [.int .i64 m.p, .slice A1 n1 s1, .slice A2 n2 s2] rfl).chg CC (by omega)
  have R5 := blk_setCells ((E5.out.chg CA (by omega)).chg CB (by omega)) [.int .i64 s, .int .i64 a] rfl
  have X3 := E3.out.chg CA (by omega)
  have X5 := (E5.out.chg CA (by omega)).chg CB (by omega)
  have K7 := ((H7.out.typ CA (fun y hy _ => by subst hy; exact ⟨_, _, E2.out, by decide⟩)).typ CB (fun y hy _ => by subst hy; exact ⟨_, _, X3, by decide⟩)).typ CC (fun y hy _ => by subst hy; exact ⟨_, _, X5, by decide⟩)
  have K8 := AggO.rd (((H8.out.chg CA (fun y hy e => by have := H8'.out y hy; omega)).chg CB (fun y hy e => by have := H8'.out y hy; omega)).chg CC (fun y hy e => by have := H8'.out y hy; omega))
  have K9 := Rd.ofOwn (Chg.own (Chg.own (Chg.own H9.out CA (fun y hy e => by have := (H9.out.lt y hy).1; omega)) CB (fun y hy e => by have := (H9.out.lt y hy).1; omega)) CC (fun y hy e => by have := (H9.out.lt y hy).1; omega))
  have GZ := gbChg (gbChg (gbChg G2.out CA (fun y hy => by omega)) CB (fun y hy => by omega)) CC (fun y hy => by omega)
  refine ret_cctc Try.results9 (by rfl) stKeys (cs := #[.int .i64 k.p, .slice KA k.al.length kc]) R2 (by rfl) (by rfl) stArith (ds := #[.int .i64 m.p, .slice A1 n1 s1, .slice A2 n2 s2]) R3 (by rfl) (by rfl) stTape (es := #[.int .i64 s, .int .i64 a]) R5 (by rfl) (by rfl) ?_
  exact ⟨KA, A1, A2, I, kc, n1, s1, n2, s2, ci, k, m, ins, P, s, a, rfl, H1.out, H2.out, h3, h4, h5, h6, ckeys_mk (m := k) (CS.toRd _ (cints_own K7.2)), K8, K9, h10, GZ⟩
end Go.Proofs.Ythaadgdeadbhkaa
