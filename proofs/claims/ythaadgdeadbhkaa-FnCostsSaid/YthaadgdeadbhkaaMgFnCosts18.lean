/-
  A drawn arithmetic circuit: the struct that is made, and the regions that append to it.
-/
import Derived.Test.YthaadgdeadbhkaaMgFnCosts10
import Derived.Test.YthaadgdeadbhkaaMgFnCosts11
import Derived.Test.YthaadgdeadbhkaaMgFnCosts17
import Derived.Test.YthaadgdeadbhkaaMgFnCosts4
import Derived.Test.YthaadgdeadbhkaaMgFnCosts7
import Derived.Test.YthaadgdeadbhkaaMgFnCosts6
namespace Go.Proofs.Ythaadgdeadbhkaa
open Go.RowKit
set_option linter.unusedVariables false
set_option linter.unusedSimpArgs false
def codesOf : Code → List Code
  | .loop c => .loop c :: codesOf c
  | .region i o d => [.region i o d]
  | .seq a b => codesOf a ++ codesOf b
  | .block _ c => codesOf c
  | .scope c => codesOf c
  | .cond _ a b => codesOf a ++ codesOf b
  | _ => []
def isReg (k : Nat) : Code → Bool
  | .region i _ _ => i == k
  | _ => false
noncomputable def regNo (f : Func) (k : Nat) : Code := ((codesOf (f.body.getD .skip)).find? (isReg k)).getD .skip
structure AS (lo g : Nat) (m : AM) (u1 u2 : Value) (F1 F2 : List Nat) (w : World) : Prop where
  blk : Blk w g 29 #[.int .i64 m.p, u1, u2]
  s : (csteps m.st).own w F1 u1
  o : (cints m.outs).own w F2 u2
  l1 : ∀ y ∈ F1, lo ≤ y ∧ y ≠ g ∧ y ∉ F2
  l2 : ∀ y ∈ F2, lo ≤ y ∧ y ≠ g
  lg : lo ≤ g
def ASE (lo g : Nat) (m : AM) (w : World) : Prop := ∃ u1 u2 F1 F2, AS lo g m u1 u2 F1 F2 w
section
variable {lo g : Nat} {m : AM} {u1 u2 : Value} {F1 F2 : List Nat} {w w' : World}
theorem AS.grow (h : AS lo g m u1 u2 F1 F2 w) (k : w.grownBy w' none) : AS lo g m u1 u2 F1 F2 w' := ⟨h.blk.grow k, own_growK _ h.s k, own_growK _ h.o k, h.l1, h.l2, h.lg⟩
theorem ASE.grow (h : ASE lo g m w) (k : w.grownBy w' none) : ASE lo g m w' := by
  obtain ⟨u1, u2, F1, F2, h⟩ := h
  exact ⟨u1, u2, F1, F2, h.grow k⟩
theorem AS.chg {S : Nat → Prop} (h : AS lo g m u1 u2 F1 F2 w) (k : Chg S w w') (hs : ∀ y, S y → y < lo) : AS lo g m u1 u2 F1 F2 w' :=
  ⟨h.blk.chg k (fun e => by have := hs _ e; have := h.lg; omega), own_chgK _ h.s k (fun y hy e => by have := hs _ e; have := (h.l1 y hy).1; omega), own_chgK _ h.o k (fun y hy e => by have := hs _ e; have := (h.l2 y hy).1; omega), h.l1, h.l2, h.lg⟩
theorem ASE.chg {S : Nat → Prop} (h : ASE lo g m w) (k : Chg S w w') (hs : ∀ y, S y → y < lo) : ASE lo g m w' := by
  obtain ⟨u1, u2, F1, F2, h⟩ := h
  exact ⟨u1, u2, F1, F2, h.chg k hs⟩
theorem AS.steps {S : Nat → Prop} {l : List (Int × Int × Int)} {v : Value} {F : List Nat} (h : AS lo g m u1 u2 F1 F2 w) (k : Chg S w w') (hs : ∀ y, S y → y < lo ∨ y ∈ F1) (hv : (csteps l).own w' F v) (hF : ∀ y ∈ F, y ∈ F1 ∨ w.heap.size ≤ y) :
    AS lo g { m with st := l } v u2 F F2 (w'.setCell ⟨g, 1, none⟩ v) := by
  have hb := (h.blk.chg k (fun e => by
    rcases hs _ e with e | e
    · have := h.lg; omega
    · exact (h.l1 g e).2.1 rfl)).set_ 1 v
  have ho := own_chgK _ h.o k (fun y hy e => by
    rcases hs _ e with e | e
    · have := (h.l2 y hy).1; omega
    · exact (h.l1 y e).2.2 hy)
  have hl : ∀ y ∈ F, lo ≤ y ∧ y ≠ g ∧ y ∉ F2 := fun y hy => by
    rcases hF y hy with e | e
    · exact h.l1 y e
    · exact ⟨by have := h.blk.lt; have := h.lg; omega, fun e' => by have := h.blk.lt; omega, fun e' => by have := CS.lt _ h.o y e'; omega⟩
  exact ⟨by simpa using hb, own_setC _ hv g 1 (fun hx => (hl g hx).2.1 rfl) v, own_setC _ ho g 1 (fun hx => (h.l2 g hx).2 rfl) v, hl, h.l2, h.lg⟩
theorem AS.outs {S : Nat → Prop} {l : List Int} {v : Value} {F : List Nat} (h : AS lo g m u1 u2 F1 F2 w) (k : Chg S w w') (hs : ∀ y, S y → y < lo ∨ y ∈ F2) (hv : (cints l).own w' F v) (hF : ∀ y ∈ F, y ∈ F2 ∨ w.heap.size ≤ y) :
    AS lo g { m with outs := l } u1 v F1 F (w'.setCell ⟨g, 2, none⟩ v) := by
  have hb := (h.blk.chg k (fun e => by
    rcases hs _ e with e | e
    · have := h.lg; omega
    · exact (h.l2 g e).2 rfl)).set_ 2 v
  have ho := own_chgK _ h.s k (fun y hy e => by
    rcases hs _ e with e | e
    · have := (h.l1 y hy).1; omega
    · exact (h.l1 y hy).2.2 e)
  have hl : ∀ y ∈ F, lo ≤ y ∧ y ≠ g ∧ y ∉ F1 := fun y hy => by
    rcases hF y hy with e | e
    · exact ⟨(h.l2 y e).1, (h.l2 y e).2, fun e' => (h.l1 y e').2.2 e⟩
    · exact ⟨by have := h.blk.lt; have := h.lg; omega, fun e' => by have := h.blk.lt; omega, fun e' => by have := CS.lt _ h.s y e'; omega⟩
  exact ⟨by simpa using hb, own_setC _ ho g 2 (fun hx => (h.l1 g hx).2.1 rfl) v, own_setC _ hv g 2 (fun hx => (hl g hx).2.1 rfl) v, fun y hy => ⟨(h.l1 y hy).1, (h.l1 y hy).2.1, fun e => (hl y e).2.2 hy⟩, fun y hy => ⟨(hl y hy).1, (hl y hy).2.1⟩, h.lg⟩
end
theorem csteps_form {w : World} {l : List (Int × Int × Int)} {v : Value} {F : List Nat} (h : (csteps l).own w F v) : ∃ A c, v = .slice A l.length c ∧ F = v.ownBlock.toList ∧ w.ownsRow 0 95 3 v l.length (l.flatMap c3) := by
  obtain ⟨A, c, e1, e2, e3⟩ := plst_row (s := 3) (fun _ => rfl) (by omega) h
  exact ⟨A, c, e1, e2, e3 0 (by simp)⟩
theorem csteps_push {w' : World} {base : Nat} {l : List (Int × Int × Int)} {b : Int × Int × Int} {v : Value} (h : w'.ownsRow base 95 3 v (l.length + 1) (l.flatMap c3 ++ c3 b)) : (csteps (l ++ [b])).own w' v.ownBlock.toList v := by
  refine plst_own (s := 3) (n := l.length + 1) (base := base) (fun _ => rfl) (by omega) c3_one ?_
  rw [List.flatMap_append]
  simpa using h
def twoI (j : Nat) (a b : Value) : Prop := ∃ x y : Int, a = .int .i64 x ∧ b = .int .i64 y ∧ (0 ≤ x ∧ x < j ∧ 0 ≤ y ∧ y < j)
def lit1N (H : Nat) (e : TypeId) (cs : Array Value) (v : Value) (w : World) : Prop := ∃ g, v = .slice (some ⟨g, 0, none⟩) 1 1 ∧ H ≤ g ∧ Blk w g e cs
set_option maxHeartbeats 4000000 in
set_option maxRecDepth 1000000 in
theorem l27R14 (lo g gc : Nat) (m : AM) (k : Int) (A : Option Addr) (n c : Nat) (bs : List Int) (w : World) (hs : ASE lo g m w) (hc : Cur w gc A n c bs) (hgc : gc < lo) (hA : 0 < n → ∀ a, A = some a → a.block < lo) (hm : m.st.length ≤ 60)
    (Q : Exit → Act → World → Prop) (s1 s2 s4 s5 s7 s8 s9 s10 s11 s12 s13 s14 s15 s16 s17 s18 s19 s20 s21 s22 s23 s24 s25 s26 s27 s28 s29 s30 s31 s32 s33 s34 s35 s36 s37 s38 s39 s40 s41 s42 s43 s44 s45 s46 s47 s48 s49 s50 s51 s52 s53 s54 s55 s56 s57 s58 s59 s60 s61 s62 s63 s64 s65 s66 s67 s68 s69 s70 s71 s72 s73 s74 s75 s76 s77 s78 s79 s80 s81 s82 s83 : Value)
    (hQ : ∀ (x : Int) (v46 v47 v48 v49 v50 v51 v52 v53 v54 : Value) (w' : World), 0 ≤ x → x < 6 → ASE lo g { m with st := m.st ++ [(k, x, 0)] } w' → Cur w' gc A n c bs → Chg (fun y => y = gc ∨ lo ≤ y) w w' →
      Q .normal (⟨List.toArray ((.pointer (some ⟨gc, 0, none⟩)) :: s1 :: s2 :: (.pointer (some ⟨g, 0, none⟩)) :: s4 :: s5 :: (.int .i64 k) :: s7 :: s8 :: s9 :: s10 :: s11 :: s12 :: s13 :: s14 :: s15 :: s16 :: s17 :: s18 :: s19 :: s20 :: s21 :: s22 :: s23 :: s24 :: s25 :: s26 :: s27 :: s28 :: s29 :: s30 :: s31 :: s32 :: s33 :: s34 :: s35 :: s36 :: s37 :: s38 :: s39 :: s40 :: s41 :: s42 :: s43 :: s44 :: s45 :: v46 :: v47 :: v48 :: v49 :: v50 :: v51 :: v52 :: v53 :: v54 :: s55 :: s56 :: s57 :: s58 :: s59 :: s60 :: s61 :: s62 :: s63 :: s64 :: s65 :: s66 :: s67 :: s68 :: s69 :: s70 :: s71 :: s72 :: s73 :: s74 :: s75 :: s76 :: s77 :: s78 :: s79 :: s80 :: s81 :: s82 :: s83 :: []), []⟩ : Act) w') :
    Code.wp Try.prog (regNo Try.f107 14) Q (⟨List.toArray ((.pointer (some ⟨gc, 0, none⟩)) :: s1 :: s2 :: (.pointer (some ⟨g, 0, none⟩)) :: s4 :: s5 :: (.int .i64 k) :: s7 :: s8 :: s9 :: s10 :: s11 :: s12 :: s13 :: s14 :: s15 :: s16 :: s17 :: s18 :: s19 :: s20 :: s21 :: s22 :: s23 :: s24 :: s25 :: s26 :: s27 :: s28 :: s29 :: s30 :: s31 :: s32 :: s33 :: s34 :: s35 :: s36 :: s37 :: s38 :: s39 :: s40 :: s41 :: s42 :: s43 :: s44 :: s45 :: s46 :: s47 :: s48 :: s49 :: s50 :: s51 :: s52 :: s53 :: s54 :: s55 :: s56 :: s57 :: s58 :: s59 :: s60 :: s61 :: s62 :: s63 :: s64 :: s65 :: s66 :: s67 :: s68 :: s69 :: s70 :: s71 :: s72 :: s73 :: s74 :: s75 :: s76 :: s77 :: s78 :: s79 :: s80 :: s81 :: s82 :: s83 :: []), []⟩ : Act) w := by
  conv => arg 2; whnf
  have HQ := Lib.hid hQ
  have HC := Lib.hid (hc.grow (gbD (gbR w none)))
  obtain ⟨u1, u2, F1, F2, hS⟩ := hs
  obtain ⟨A1, c1, rfl, eF1, o1⟩ := csteps_form hS.s
  have HS := Lib.hid hS
  have SF : ∀ y, (Value.slice A1 m.st.length c1).ownBlock = some y → y ∈ F1 := fun y hy => by rw [eF1]; simpa using hy
  have SG : ∀ y, (y = gc ∨ (Value.slice A1 m.st.length c1).ownBlock = some y) → y ≠ g := fun y hy e => by
    rcases hy with hy | hy
    · have := hS.lg; omega
    · exact (hS.l1 y (SF y hy)).2.1 e
  have BG := Lib.hid (hS.blk.grow (gbD (gbR w none)))
  have O1 := Lib.hid (own_grow o1 (gbD (gbR w none)))
  have LG := Lib.hid hS.lg
  clear hQ hc hS o1 eF1
  refine region_chain [.rd (.pointer (some ⟨g, 1, none⟩)), .rd (.slice A1 m.st.length c1), .rd (.int .i64 k), .rd (.pointer (some ⟨gc, 0, none⟩)), .ch, .ch, .ch, .ch, .rd (.pointer (some ⟨g, 1, none⟩)), .ch] (fun y => y = gc ∨ (Value.slice A1 m.st.length c1).ownBlock = some y)
    [⟨[], fun _ w' => w' = w.drew⟩,
     ⟨[50], fun l w' => (∃ x : Int, l.getD 0 undef = .int .i64 x ∧ 0 ≤ x ∧ x < 6) ∧ Cur w' gc A n c bs ∧ Chg (fun y => y = gc) w.drew w'⟩,
     ⟨[51], fun l w' => (∃ x : Int, l.getD 0 undef = .agg #[.int .i64 k, .int .i64 x, .int .i64 0] ∧ 0 ≤ x ∧ x < 6) ∧ Cur w' gc A n c bs ∧ Chg (fun y => y = gc) w.drew w'⟩,
     ⟨[52], fun l w' => (∃ x : Int, lit1N w.heap.size 95 #[.int .i64 k, .int .i64 x, .int .i64 0] (l.getD 0 undef) w' ∧ 0 ≤ x ∧ x < 6) ∧ Cur w' gc A n c bs ∧ Chg (fun y => y = gc) w.drew w'⟩,
     ⟨[53], fun l w' => ∃ x : Int, (∃ F, (csteps (m.st ++ [(k, x, 0)])).own w' F (l.getD 0 undef) ∧ ∀ y ∈ F, y ∈ F1 ∨ w.heap.size ≤ y) ∧ 0 ≤ x ∧ x < 6 ∧ Cur w' gc A n c bs ∧ Chg (fun y => y = gc ∨ (Value.slice A1 m.st.length c1).ownBlock = some y) w.drew w'⟩,
     ⟨[], fun _ w' => ∃ x : Int, 0 ≤ x ∧ x < 6 ∧ ASE lo g { m with st := m.st ++ [(k, x, 0)] } w' ∧ Cur w' gc A n c bs ∧ Chg (fun y => y = gc ∨ lo ≤ y) w w'⟩]
    (by kernel_rfl) (by kernel_rfl) (by kernel_rfl) 5 (by kernel_rfl) (by simp only [flOk, and_true]) rfl rfl ?_ ?_
  · simp only [hopsK, hopK, Kd.next, and_true]
    refine ⟨?_, ?_, ?_, ?_, ?_, ?_, ?_, ?_, ?_, ?_⟩
    · (intro f w4 hG hd; (try simp [depsC, dstAt, kAt, bindE, List.filter_cons, bd_data, bd_chain, bd_guard, bd_phase, bd_text, bd_gc] at hd); (first | simp [puts, dsts, Act.put, hd] | simp [puts, dsts, Act.put]); go_wp2_with fail; exact ⟨rfl, rfl⟩)
    · intro f w4 hG hd
      (try simp [depsC, dstAt, kAt, bindE, List.filter_cons, bd_data, bd_chain, bd_guard, bd_phase, bd_text, bd_gc] at hd)
      have B4 := BG.out.chg hG (fun e => SG _ e rfl)
      have b0 := B4.cell 1
      simp at b0
      (first | simp [puts, dsts, Act.put, hd] | simp [puts, dsts, Act.put])
      go_wp2_with fail
      exact ⟨rfl, rfl⟩
    · (intro f w4 hG hd; (try simp [depsC, dstAt, kAt, bindE, List.filter_cons, bd_data, bd_chain, bd_guard, bd_phase, bd_text, bd_gc] at hd); (first | simp [puts, dsts, Act.put, hd] | simp [puts, dsts, Act.put]); go_wp2_with fail; exact ⟨rfl, rfl⟩)
    · (intro f w4 hG hd; (try simp [depsC, dstAt, kAt, bindE, List.filter_cons, bd_data, bd_chain, bd_guard, bd_phase, bd_text, bd_gc] at hd); (first | simp [puts, dsts, Act.put, hd] | simp [puts, dsts, Act.put]); go_wp2_with fail; exact ⟨rfl, rfl⟩)
    · intro f w4 hG hI hd
      have hI : w4 = w.drew := hI
      subst hI
      (try simp [depsC, dstAt, kAt, bindE, List.filter_cons, bd_data, bd_chain, bd_guard, bd_phase, bd_text, bd_gc] at hd)
      (first | simp [puts, dsts, Act.put, hd] | simp [puts, dsts, Act.put])
      go_wp2_with fail
      refine (l01Below_c _ 6 (by omega) gc A n c bs HC.out).mono ?_
      rintro e w5 ⟨x, rfl, hx0, hx1, hc5, hg5⟩
      have H5 := Lib.hid hc5
      have hx2 := hx1 (by omega)
      have hch : Chg (fun y => y = gc) w.drew w5 := Chg.of hg5 (fun y h => by injection h with h; exact h.symm)
      clear hc5 hx1 hg5
      go_wp2_with fail
      exact ⟨_, rfl, ⟨⟨x, rfl, hx0, hx2⟩, H5.out, hch⟩, ⟨hch.mono (fun y hy => .inl hy), by simp [keepsC]⟩⟩
    · intro f w4 hG hI hd
      obtain ⟨⟨x, ex, hx0, hx1⟩, hc4, hch⟩ := hI
      have ex : f 50 = .int .i64 x := ex
      (try simp [depsC, dstAt, kAt, bindE, List.filter_cons, bd_data, bd_chain, bd_guard, bd_phase, bd_text, bd_gc] at hd)
      simp [puts, dsts, Act.put, hd, ex]
      go_wp2_with fail
      exact ⟨_, rfl, ⟨⟨x, rfl, hx0, hx1⟩, hc4, hch⟩, ⟨Chg.refl _ _, by simp [keepsC]⟩⟩
    · intro f w4 hG hI hd
      obtain ⟨⟨x, ex, hx0, hx1⟩, hc4, hch⟩ := hI
      have ex : f 51 = .agg #[.int .i64 k, .int .i64 x, .int .i64 0] := ex
      clear hd
      simp [puts, dsts, Act.put, ex]
      go_wp2_with fail
      exact ⟨_, rfl, ⟨⟨x, ⟨_, rfl, by have := hch.size; simp at this; omega, Blk.new w4 _ _⟩, hx0, hx1⟩, hc4.grow (gbA (gbR _ _) _), hch.trans (Chg.of (gbA (gbR _ none) _) (by simp))⟩, ⟨Chg.of (gbA (gbR _ none) _) (by simp), by simp [keepsC]⟩⟩
    · intro f w4 hG hI hd
      obtain ⟨⟨x, ⟨g9, e9, hg9, B9⟩, hx0, hx1⟩, hc4, hch⟩ := hI
      have e9 : f 52 = .slice (some ⟨g9, 0, none⟩) 1 1 := e9
      (try simp [depsC, dstAt, kAt, bindE, List.filter_cons, bd_data, bd_chain, bd_guard, bd_phase, bd_text, bd_gc] at hd)
      simp [puts, dsts, Act.put, hd, e9]
      have n0 := B9.cell 0
      have n1 := B9.cell 1
      have n2 := B9.cell 2
      simp at n0 n1 n2
      refine wp_appendA w4 elStep rfl (.tmp 47) (.tmp 52) rfl 0 _ _ _ (Chg.own O1.out hch (fun y hy e => by have := (HS.out.l1 y (SF y hy)).1; omega)) rfl ⟨g9, 0, none⟩ 1 1 [.int .i64 k, .int .i64 x, .int .i64 0] rfl rfl ?_ (by simp [Value.oneCell']) (by unfold maxLen; omega) (by omega) (Nat.zero_le _) ?_
      · intro j u hu
        have hadd : (⟨g9, 0, none⟩ : Addr).add j = ⟨g9, j, none⟩ := by unfold Addr.add; split <;> simp_all
        rw [hadd]
        match j, hu with
        | 0, hu => simp at hu; rw [n0, hu]
        | 1, hu => simp at hu; rw [n1, hu]
        | 2, hu => simp at hu; rw [n2, hu]
        | j + 3, hu => simp at hu
      intro v' w6 o8 g8 k8
      have o8' := csteps_push (b := (k, x, 0)) o8
      obtain ⟨A9, c9, hv9, e9', _⟩ := csteps_form o8'
      rw [show (m.st ++ [((k, x, 0) : Int × Int × Int)]).length = m.st.length + 1 by simp] at hv9
      subst hv9
      have hC6 : Cur w6 gc A n c bs := by
        refine hc4.kept (Chg.of g8 (S := fun y => (Value.slice A1 m.st.length c1).ownBlock = some y) (fun y hy => hy)) (g8.block gc hc4.lt (fun e => ?_)) (fun hn a ha e => ?_)
        · have := (HS.out.l1 gc (SF gc e.symm)).1; omega
        · have := (HS.out.l1 _ (SF _ e)).1; have := hA hn a ha; omega
      go_wp2_with fail
      refine ⟨_, rfl, ⟨x, ⟨_, o8', fun y hy => ?_⟩, hx0, hx1, hC6, (hch.mono (fun y hy => .inl hy)).trans (Chg.of g8 (fun y hy => .inr hy))⟩, ⟨Chg.of g8 (fun y hy => .inr hy), by simp [keepsC]⟩⟩
      rcases k8 y (by simpa using hy) with h1 | h1
      · exact .inl (SF y h1.symm)
      · exact .inr (by have := hch.size; simp at this; omega)
    · (intro f w4 hG hd; (try simp [depsC, dstAt, kAt, bindE, List.filter_cons, bd_data, bd_chain, bd_guard, bd_phase, bd_text, bd_gc] at hd); (first | simp [puts, dsts, Act.put, hd] | simp [puts, dsts, Act.put]); go_wp2_with fail; exact ⟨rfl, rfl⟩)
    · intro f w6 hG hI hd
      obtain ⟨x, ⟨F, o6, l6⟩, hx0, hx1, hc6, hch⟩ := hI
      have o6 : (csteps (m.st ++ [(k, x, 0)])).own w6 F (f 53) := o6
      obtain ⟨B, n', s', e53⟩ := row_form o6
      (try simp [depsC, dstAt, kAt, bindE, List.filter_cons, bd_data, bd_chain, bd_guard, bd_phase, bd_text, bd_gc] at hd)
      rw [e53] at o6
      have B6 := BG.out.chg hch (fun e => SG _ e rfl)
      have b1 := B6.cell 1
      have f1 := B6.frozen 1
      simp at b1
      have hS6 := HS.out.steps ((Chg.of (gbD (gbR w none)) (by simp)).trans hch) (fun y hy => by
        rcases hy with hy | hy
        · exact .inl (by omega)
        · exact .inr (SF y hy)) o6 l6
      have hC7 : Cur (w6.setCell ⟨g, 1, none⟩ (.slice B n' s')) gc A n c bs := hc6.kept (chgS w6 g 1 _) ((chgS w6 g 1 (.slice B n' s')).block gc hc6.lt (fun e => by have := LG.out; omega)) (fun hn a ha e => by have := hA hn a ha; have := LG.out; omega)
      have hT : Chg (fun y => y = gc ∨ lo ≤ y) w (w6.setCell ⟨g, 1, none⟩ (.slice B n' s')) := (((Chg.of (gbD (gbR w none)) (by simp)).trans hch).mono (fun y hy => by
        rcases hy with hy | hy
        · exact .inl hy
        · exact .inr (HS.out.l1 y (SF y hy)).1)).trans ((chgS w6 g 1 _).mono (fun y hy => .inr (by rw [hy]; exact LG.out)))
      simp [puts, dsts, Act.put, hd, e53]
      go_wp2_with fail
      exact ⟨rfl, .bool false, x, hx0, hx1, ⟨_, _, _, _, hS6⟩, hC7, hT⟩
  · intro f w6 hI hd
    obtain ⟨x, hx0, hx1, hS, hC, hch⟩ := hI
    clear hd
    simp only [puts, dsts, Act.put, List.filterMap_cons, List.filterMap_nil, List.setIfInBounds_toArray, List.set_cons_zero, List.set_cons_succ]
    exact HQ.out x _ _ _ _ _ _ _ _ _ w6 hx0 hx1 hS hC hch
set_option maxHeartbeats 4000000 in
set_option maxRecDepth 1000000 in
theorem l27R16 (lo g gc : Nat) (m : AM) (k : Int) (A : Option Addr) (n c : Nat) (bs : List Int) (w : World) (hs : ASE lo g m w) (hc : Cur w gc A n c bs) (hgc : gc < lo) (hA : 0 < n → ∀ a, A = some a → a.block < lo) (hm : m.st.length ≤ 60) (hp0 : 1 ≤ m.p) (hp1 : m.p ≤ 1099511627776)
    (Q : Exit → Act → World → Prop) (s1 s2 s4 s5 s7 s8 s9 s10 s11 s12 s13 s14 s15 s16 s17 s18 s19 s20 s21 s22 s23 s24 s25 s26 s27 s28 s29 s30 s31 s32 s33 s34 s35 s36 s37 s38 s39 s40 s41 s42 s43 s44 s45 s46 s47 s48 s49 s50 s51 s52 s53 s54 s55 s56 s57 s58 s59 s60 s61 s62 s63 s64 s65 s66 s67 s68 s69 s70 s71 s72 s73 s74 s75 s76 s77 s78 s79 s80 s81 s82 s83 : Value)
    (hQ : ∀ (x : Int) (v57 v58 v59 v60 v61 v62 v63 v64 v65 v66 v67 : Value) (w' : World), 0 ≤ x → x < m.p → ASE lo g { m with st := m.st ++ [(k, x, 0)] } w' → Cur w' gc A n c bs → Chg (fun y => y = gc ∨ lo ≤ y) w w' →
      Q .normal (⟨List.toArray ((.pointer (some ⟨gc, 0, none⟩)) :: s1 :: s2 :: (.pointer (some ⟨g, 0, none⟩)) :: s4 :: s5 :: (.int .i64 k) :: s7 :: s8 :: s9 :: s10 :: s11 :: s12 :: s13 :: s14 :: s15 :: s16 :: s17 :: s18 :: s19 :: s20 :: s21 :: s22 :: s23 :: s24 :: s25 :: s26 :: s27 :: s28 :: s29 :: s30 :: s31 :: s32 :: s33 :: s34 :: s35 :: s36 :: s37 :: s38 :: s39 :: s40 :: s41 :: s42 :: s43 :: s44 :: s45 :: s46 :: s47 :: s48 :: s49 :: s50 :: s51 :: s52 :: s53 :: s54 :: s55 :: s56 :: v57 :: v58 :: v59 :: v60 :: v61 :: v62 :: v63 :: v64 :: v65 :: v66 :: v67 :: s68 :: s69 :: s70 :: s71 :: s72 :: s73 :: s74 :: s75 :: s76 :: s77 :: s78 :: s79 :: s80 :: s81 :: s82 :: s83 :: []), []⟩ : Act) w') :
    Code.wp Try.prog (regNo Try.f107 16) Q (⟨List.toArray ((.pointer (some ⟨gc, 0, none⟩)) :: s1 :: s2 :: (.pointer (some ⟨g, 0, none⟩)) :: s4 :: s5 :: (.int .i64 k) :: s7 :: s8 :: s9 :: s10 :: s11 :: s12 :: s13 :: s14 :: s15 :: s16 :: s17 :: s18 :: s19 :: s20 :: s21 :: s22 :: s23 :: s24 :: s25 :: s26 :: s27 :: s28 :: s29 :: s30 :: s31 :: s32 :: s33 :: s34 :: s35 :: s36 :: s37 :: s38 :: s39 :: s40 :: s41 :: s42 :: s43 :: s44 :: s45 :: s46 :: s47 :: s48 :: s49 :: s50 :: s51 :: s52 :: s53 :: s54 :: s55 :: s56 :: s57 :: s58 :: s59 :: s60 :: s61 :: s62 :: s63 :: s64 :: s65 :: s66 :: s67 :: s68 :: s69 :: s70 :: s71 :: s72 :: s73 :: s74 :: s75 :: s76 :: s77 :: s78 :: s79 :: s80 :: s81 :: s82 :: s83 :: []), []⟩ : Act) w := by
  conv => arg 2; whnf
  have HQ := Lib.hid hQ
  have HC := Lib.hid (hc.grow (gbD (gbR w none)))
  obtain ⟨u1, u2, F1, F2, hS⟩ := hs
  obtain ⟨A1, c1, rfl, eF1, o1⟩ := csteps_form hS.s
  have HS := Lib.hid hS
  have SF : ∀ y, (Value.slice A1 m.st.length c1).ownBlock = some y → y ∈ F1 := fun y hy => by rw [eF1]; simpa using hy
  have SG : ∀ y, (y = gc ∨ (Value.slice A1 m.st.length c1).ownBlock = some y) → y ≠ g := fun y hy e => by
    rcases hy with hy | hy
    · have := hS.lg; omega
    · exact (hS.l1 y (SF y hy)).2.1 e
  have BG := Lib.hid (hS.blk.grow (gbD (gbR w none)))
  have O1 := Lib.hid (own_grow o1 (gbD (gbR w none)))
  have LG := Lib.hid hS.lg
  clear hQ hc hS o1 eF1
  refine region_chain [.rd (.pointer (some ⟨g, 1, none⟩)), .rd (.slice A1 m.st.length c1), .rd (.int .i64 k), .rd (.pointer (some ⟨gc, 0, none⟩)), .rd (.pointer (some ⟨g, 0, none⟩)), .rd (.int .i64 m.p), .ch, .ch, .ch, .ch, .rd (.pointer (some ⟨g, 1, none⟩)), .ch] (fun y => y = gc ∨ (Value.slice A1 m.st.length c1).ownBlock = some y)
    [⟨[], fun _ w' => w' = w.drew⟩,
     ⟨[63], fun l w' => (∃ x : Int, l.getD 0 undef = .int .i64 x ∧ 0 ≤ x ∧ x < m.p) ∧ Cur w' gc A n c bs ∧ Chg (fun y => y = gc) w.drew w'⟩,
     ⟨[64], fun l w' => (∃ x : Int, l.getD 0 undef = .agg #[.int .i64 k, .int .i64 x, .int .i64 0] ∧ 0 ≤ x ∧ x < m.p) ∧ Cur w' gc A n c bs ∧ Chg (fun y => y = gc) w.drew w'⟩,
     ⟨[65], fun l w' => (∃ x : Int, lit1N w.heap.size 95 #[.int .i64 k, .int .i64 x, .int .i64 0] (l.getD 0 undef) w' ∧ 0 ≤ x ∧ x < m.p) ∧ Cur w' gc A n c bs ∧ Chg (fun y => y = gc) w.drew w'⟩,
     ⟨[66], fun l w' => ∃ x : Int, (∃ F, (csteps (m.st ++ [(k, x, 0)])).own w' F (l.getD 0 undef) ∧ ∀ y ∈ F, y ∈ F1 ∨ w.heap.size ≤ y) ∧ 0 ≤ x ∧ x < m.p ∧ Cur w' gc A n c bs ∧ Chg (fun y => y = gc ∨ (Value.slice A1 m.st.length c1).ownBlock = some y) w.drew w'⟩,
     ⟨[], fun _ w' => ∃ x : Int, 0 ≤ x ∧ x < m.p ∧ ASE lo g { m with st := m.st ++ [(k, x, 0)] } w' ∧ Cur w' gc A n c bs ∧ Chg (fun y => y = gc ∨ lo ≤ y) w w'⟩]
    (by kernel_rfl) (by kernel_rfl) (by kernel_rfl) 5 (by kernel_rfl) (by simp only [flOk, and_true]) rfl rfl ?_ ?_
  · simp only [hopsK, hopK, Kd.next, and_true]
    refine ⟨?_, ?_, ?_, ?_, ?_, ?_, ?_, ?_, ?_, ?_, ?_, ?_⟩
    · (intro f w4 hG hd; (try simp [depsC, dstAt, kAt, bindE, List.filter_cons, bd_data, bd_chain, bd_guard, bd_phase, bd_text, bd_gc] at hd); (first | simp [puts, dsts, Act.put, hd] | simp [puts, dsts, Act.put]); go_wp2_with fail; exact ⟨rfl, rfl⟩)
    · intro f w4 hG hd
      (try simp [depsC, dstAt, kAt, bindE, List.filter_cons, bd_data, bd_chain, bd_guard, bd_phase, bd_text, bd_gc] at hd)
      have B4 := BG.out.chg hG (fun e => SG _ e rfl)
      have b0 := B4.cell 1
      simp at b0
      (first | simp [puts, dsts, Act.put, hd] | simp [puts, dsts, Act.put])
      go_wp2_with fail
      exact ⟨rfl, rfl⟩
    · (intro f w4 hG hd; (try simp [depsC, dstAt, kAt, bindE, List.filter_cons, bd_data, bd_chain, bd_guard, bd_phase, bd_text, bd_gc] at hd); (first | simp [puts, dsts, Act.put, hd] | simp [puts, dsts, Act.put]); go_wp2_with fail; exact ⟨rfl, rfl⟩)
    · (intro f w4 hG hd; (try simp [depsC, dstAt, kAt, bindE, List.filter_cons, bd_data, bd_chain, bd_guard, bd_phase, bd_text, bd_gc] at hd); (first | simp [puts, dsts, Act.put, hd] | simp [puts, dsts, Act.put]); go_wp2_with fail; exact ⟨rfl, rfl⟩)
    · (intro f w4 hG hd; (try simp [depsC, dstAt, kAt, bindE, List.filter_cons, bd_data, bd_chain, bd_guard, bd_phase, bd_text, bd_gc] at hd); (first | simp [puts, dsts, Act.put, hd] | simp [puts, dsts, Act.put]); go_wp2_with fail; exact ⟨rfl, rfl⟩)
    · intro f w4 hG hd
      (try simp [depsC, dstAt, kAt, bindE, List.filter_cons, bd_data, bd_chain, bd_guard, bd_phase, bd_text, bd_gc] at hd)
      have B4 := BG.out.chg hG (fun e => SG _ e rfl)
      have b0 := B4.cell 0
      simp at b0
      (first | simp [puts, dsts, Act.put, hd] | simp [puts, dsts, Act.put])
      go_wp2_with fail
      exact ⟨rfl, rfl⟩
    · intro f w4 hG hI hd
      have hI : w4 = w.drew := hI
      subst hI
      (try simp [depsC, dstAt, kAt, bindE, List.filter_cons, bd_data, bd_chain, bd_guard, bd_phase, bd_text, bd_gc] at hd)
      (first | simp [puts, dsts, Act.put, hd] | simp [puts, dsts, Act.put])
      go_wp2_with fail
      refine (l01Below_c _ m.p hp1 gc A n c bs HC.out).mono ?_
      rintro e w5 ⟨x, rfl, hx0, hx1, hc5, hg5⟩
      have H5 := Lib.hid hc5
      have hx2 := hx1 hp0
      have hch : Chg (fun y => y = gc) w.drew w5 := Chg.of hg5 (fun y h => by injection h with h; exact h.symm)
      clear hc5 hx1 hg5
      go_wp2_with fail
      exact ⟨_, rfl, ⟨⟨x, rfl, hx0, hx2⟩, H5.out, hch⟩, ⟨hch.mono (fun y hy => .inl hy), by simp [keepsC]⟩⟩
    · intro f w4 hG hI hd
      obtain ⟨⟨x, ex, hx0, hx1⟩, hc4, hch⟩ := hI
      have ex : f 63 = .int .i64 x := ex
      (try simp [depsC, dstAt, kAt, bindE, List.filter_cons, bd_data, bd_chain, bd_guard, bd_phase, bd_text, bd_gc] at hd)
      simp [puts, dsts, Act.put, hd, ex]
      go_wp2_with fail
      exact ⟨_, rfl, ⟨⟨x, rfl, hx0, hx1⟩, hc4, hch⟩, ⟨Chg.refl _ _, by simp [keepsC]⟩⟩
    · intro f w4 hG hI hd
      obtain ⟨⟨x, ex, hx0, hx1⟩, hc4, hch⟩ := hI
      have ex : f 64 = .agg #[.int .i64 k, .int .i64 x, .int .i64 0] := ex
      clear hd
      simp [puts, dsts, Act.put, ex]
      go_wp2_with fail
      exact ⟨_, rfl, ⟨⟨x, ⟨_, rfl, by have := hch.size; simp at this; omega, Blk.new w4 _ _⟩, hx0, hx1⟩, hc4.grow (gbA (gbR _ _) _), hch.trans (Chg.of (gbA (gbR _ none) _) (by simp))⟩, ⟨Chg.of (gbA (gbR _ none) _) (by simp), by simp [keepsC]⟩⟩
    · intro f w4 hG hI hd
      obtain ⟨⟨x, ⟨g9, e9, hg9, B9⟩, hx0, hx1⟩, hc4, hch⟩ := hI
      have e9 : f 65 = .slice (some ⟨g9, 0, none⟩) 1 1 := e9
      (try simp [depsC, dstAt, kAt, bindE, List.filter_cons, bd_data, bd_chain, bd_guard, bd_phase, bd_text, bd_gc] at hd)
      simp [puts, dsts, Act.put, hd, e9]
      have n0 := B9.cell 0
      have n1 := B9.cell 1
      have n2 := B9.cell 2
      simp at n0 n1 n2
      refine wp_appendA w4 elStep rfl (.tmp 58) (.tmp 65) rfl 0 _ _ _ (Chg.own O1.out hch (fun y hy e => by have := (HS.out.l1 y (SF y hy)).1; omega)) rfl ⟨g9, 0, none⟩ 1 1 [.int .i64 k, .int .i64 x, .int .i64 0] rfl rfl ?_ (by simp [Value.oneCell']) (by unfold maxLen; omega) (by omega) (Nat.zero_le _) ?_
      · intro j u hu
        have hadd : (⟨g9, 0, none⟩ : Addr).add j = ⟨g9, j, none⟩ := by unfold Addr.add; split <;> simp_all
        rw [hadd]
        match j, hu with
        | 0, hu => simp at hu; rw [n0, hu]
        | 1, hu => simp at hu; rw [n1, hu]
        | 2, hu => simp at hu; rw [n2, hu]
        | j + 3, hu => simp at hu
      intro v' w6 o8 g8 k8
      have o8' := csteps_push (b := (k, x, 0)) o8
      obtain ⟨A9, c9, hv9, e9', _⟩ := csteps_form o8'
      rw [show (m.st ++ [((k, x, 0) : Int × Int × Int)]).length = m.st.length + 1 by simp] at hv9
      subst hv9
      have hC6 : Cur w6 gc A n c bs := by
        refine hc4.kept (Chg.of g8 (S := fun y => (Value.slice A1 m.st.length c1).ownBlock = some y) (fun y hy => hy)) (g8.block gc hc4.lt (fun e => ?_)) (fun hn a ha e => ?_)
        · have := (HS.out.l1 gc (SF gc e.symm)).1; omega
        · have := (HS.out.l1 _ (SF _ e)).1; have := hA hn a ha; omega
      go_wp2_with fail
      refine ⟨_, rfl, ⟨x, ⟨_, o8', fun y hy => ?_⟩, hx0, hx1, hC6, (hch.mono (fun y hy => .inl hy)).trans (Chg.of g8 (fun y hy => .inr hy))⟩, ⟨Chg.of g8 (fun y hy => .inr hy), by simp [keepsC]⟩⟩
      rcases k8 y (by simpa using hy) with h1 | h1
      · exact .inl (SF y h1.symm)
      · exact .inr (by have := hch.size; simp at this; omega)
    · (intro f w4 hG hd; (try simp [depsC, dstAt, kAt, bindE, List.filter_cons, bd_data, bd_chain, bd_guard, bd_phase, bd_text, bd_gc] at hd); (first | simp [puts, dsts, Act.put, hd] | simp [puts, dsts, Act.put]); go_wp2_with fail; exact ⟨rfl, rfl⟩)
    · intro f w6 hG hI hd
      obtain ⟨x, ⟨F, o6, l6⟩, hx0, hx1, hc6, hch⟩ := hI
      have o6 : (csteps (m.st ++ [(k, x, 0)])).own w6 F (f 66) := o6
      obtain ⟨B, n', s', e53⟩ := row_form o6
      (try simp [depsC, dstAt, kAt, bindE, List.filter_cons, bd_data, bd_chain, bd_guard, bd_phase, bd_text, bd_gc] at hd)
      rw [e53] at o6
      have B6 := BG.out.chg hch (fun e => SG _ e rfl)
      have b1 := B6.cell 1
      have f1 := B6.frozen 1
      simp at b1
      have hS6 := HS.out.steps ((Chg.of (gbD (gbR w none)) (by simp)).trans hch) (fun y hy => by
        rcases hy with hy | hy
        · exact .inl (by omega)
        · exact .inr (SF y hy)) o6 l6
      have hC7 : Cur (w6.setCell ⟨g, 1, none⟩ (.slice B n' s')) gc A n c bs := hc6.kept (chgS w6 g 1 _) ((chgS w6 g 1 (.slice B n' s')).block gc hc6.lt (fun e => by have := LG.out; omega)) (fun hn a ha e => by have := hA hn a ha; have := LG.out; omega)
      have hT : Chg (fun y => y = gc ∨ lo ≤ y) w (w6.setCell ⟨g, 1, none⟩ (.slice B n' s')) := (((Chg.of (gbD (gbR w none)) (by simp)).trans hch).mono (fun y hy => by
        rcases hy with hy | hy
        · exact .inl hy
        · exact .inr (HS.out.l1 y (SF y hy)).1)).trans ((chgS w6 g 1 _).mono (fun y hy => .inr (by rw [hy]; exact LG.out)))
      simp [puts, dsts, Act.put, hd, e53]
      go_wp2_with fail
      exact ⟨rfl, .bool false, x, hx0, hx1, ⟨_, _, _, _, hS6⟩, hC7, hT⟩
  · intro f w6 hI hd
    obtain ⟨x, hx0, hx1, hS, hC, hch⟩ := hI
    clear hd
    simp only [puts, dsts, Act.put, List.filterMap_cons, List.filterMap_nil, List.setIfInBounds_toArray, List.set_cons_zero, List.set_cons_succ]
    exact HQ.out x _ _ _ _ _ _ _ _ _ _ _ w6 hx0 hx1 hS hC hch
set_option maxHeartbeats 4000000 in
set_option maxRecDepth 1000000 in
theorem l27R12 (lo g gc : Nat) (m : AM) (k : Int) (j : Nat) (A : Option Addr) (n c : Nat) (bs : List Int) (w : World) (hs : ASE lo g m w) (hc : Cur w gc A n c bs) (hgc : gc < lo) (hA : 0 < n → ∀ a, A = some a → a.block < lo) (hm : m.st.length ≤ 60) (hj0 : 1 ≤ j) (hj1 : j ≤ 60)
    (Q : Exit → Act → World → Prop) (s1 s2 s4 s7 s8 s9 s10 s11 s12 s13 s14 s15 s16 s17 s18 s19 s20 s21 s22 s23 s24 s25 s26 s27 s28 s29 s30 s31 s32 s33 s34 s35 s36 s37 s38 s39 s40 s41 s42 s43 s44 s45 s46 s47 s48 s49 s50 s51 s52 s53 s54 s55 s56 s57 s58 s59 s60 s61 s62 s63 s64 s65 s66 s67 s68 s69 s70 s71 s72 s73 s74 s75 s76 s77 s78 s79 s80 s81 s82 s83 : Value)
    (hQ : ∀ (x y : Int) (v31 v32 v33 v34 v35 v36 v37 v38 v39 v40 v41 v42 v43 : Value) (w' : World), 0 ≤ x → x < j → 0 ≤ y → y < j → ASE lo g { m with st := m.st ++ [(k, x, y)] } w' → Cur w' gc A n c bs → Chg (fun y => y = gc ∨ lo ≤ y) w w' →
      Q .normal (⟨List.toArray ((.pointer (some ⟨gc, 0, none⟩)) :: s1 :: s2 :: (.pointer (some ⟨g, 0, none⟩)) :: s4 :: (.int .i64 j) :: (.int .i64 k) :: s7 :: s8 :: s9 :: s10 :: s11 :: s12 :: s13 :: s14 :: s15 :: s16 :: s17 :: s18 :: s19 :: s20 :: s21 :: s22 :: s23 :: s24 :: s25 :: s26 :: s27 :: s28 :: s29 :: s30 :: v31 :: v32 :: v33 :: v34 :: v35 :: v36 :: v37 :: v38 :: v39 :: v40 :: v41 :: v42 :: v43 :: s44 :: s45 :: s46 :: s47 :: s48 :: s49 :: s50 :: s51 :: s52 :: s53 :: s54 :: s55 :: s56 :: s57 :: s58 :: s59 :: s60 :: s61 :: s62 :: s63 :: s64 :: s65 :: s66 :: s67 :: s68 :: s69 :: s70 :: s71 :: s72 :: s73 :: s74 :: s75 :: s76 :: s77 :: s78 :: s79 :: s80 :: s81 :: s82 :: s83 :: []), []⟩ : Act) w') :
    Code.wp Try.prog (regNo Try.f107 12) Q (⟨List.toArray ((.pointer (some ⟨gc, 0, none⟩)) :: s1 :: s2 :: (.pointer (some ⟨g, 0, none⟩)) :: s4 :: (.int .i64 j) :: (.int .i64 k) :: s7 :: s8 :: s9 :: s10 :: s11 :: s12 :: s13 :: s14 :: s15 :: s16 :: s17 :: s18 :: s19 :: s20 :: s21 :: s22 :: s23 :: s24 :: s25 :: s26 :: s27 :: s28 :: s29 :: s30 :: s31 :: s32 :: s33 :: s34 :: s35 :: s36 :: s37 :: s38 :: s39 :: s40 :: s41 :: s42 :: s43 :: s44 :: s45 :: s46 :: s47 :: s48 :: s49 :: s50 :: s51 :: s52 :: s53 :: s54 :: s55 :: s56 :: s57 :: s58 :: s59 :: s60 :: s61 :: s62 :: s63 :: s64 :: s65 :: s66 :: s67 :: s68 :: s69 :: s70 :: s71 :: s72 :: s73 :: s74 :: s75 :: s76 :: s77 :: s78 :: s79 :: s80 :: s81 :: s82 :: s83 :: []), []⟩ : Act) w := by
  conv => arg 2; whnf
  have HQ := Lib.hid hQ
  have HC := Lib.hid (hc.grow (gbD (gbR w none)))
  obtain ⟨u1, u2, F1, F2, hS⟩ := hs
  obtain ⟨A1, c1, rfl, eF1, o1⟩ := csteps_form hS.s
  have HS := Lib.hid hS
  have SF : ∀ y, (Value.slice A1 m.st.length c1).ownBlock = some y → y ∈ F1 := fun y hy => by rw [eF1]; simpa using hy
  have SG : ∀ y, (y = gc ∨ (Value.slice A1 m.st.length c1).ownBlock = some y) → y ≠ g := fun y hy e => by
    rcases hy with hy | hy
    · have := hS.lg; omega
    · exact (hS.l1 y (SF y hy)).2.1 e
  have BG := Lib.hid (hS.blk.grow (gbD (gbR w none)))
  have O1 := Lib.hid (own_grow o1 (gbD (gbR w none)))
  have LG := Lib.hid hS.lg
  clear hQ hc hS o1 eF1
  refine region_chain [.rd (.pointer (some ⟨g, 1, none⟩)), .rd (.slice A1 m.st.length c1), .rd (.int .i64 k), .rd (.pointer (some ⟨gc, 0, none⟩)), .rd (.int .i64 j), .ch, .rd (.pointer (some ⟨gc, 0, none⟩)), .rd (.int .i64 j), .ch, .ch, .ch, .ch, .rd (.pointer (some ⟨g, 1, none⟩)), .ch] (fun y => y = gc ∨ (Value.slice A1 m.st.length c1).ownBlock = some y)
    [⟨[], fun _ w' => w' = w.drew⟩,
     ⟨[36], fun l w' => (∃ x : Int, l.getD 0 undef = .int .i64 x ∧ 0 ≤ x ∧ x < j) ∧ Cur w' gc A n c bs ∧ Chg (fun y => y = gc) w.drew w'⟩,
     ⟨[36, 39], fun l w' => twoI j (l.getD 0 undef) (l.getD 1 undef) ∧ Cur w' gc A n c bs ∧ Chg (fun y => y = gc) w.drew w'⟩,
     ⟨[40], fun l w' => (∃ x y : Int, l.getD 0 undef = .agg #[.int .i64 k, .int .i64 x, .int .i64 y] ∧ (0 ≤ x ∧ x < j ∧ 0 ≤ y ∧ y < j)) ∧ Cur w' gc A n c bs ∧ Chg (fun y => y = gc) w.drew w'⟩,
     ⟨[41], fun l w' => (∃ x y : Int, lit1N w.heap.size 95 #[.int .i64 k, .int .i64 x, .int .i64 y] (l.getD 0 undef) w' ∧ (0 ≤ x ∧ x < j ∧ 0 ≤ y ∧ y < j)) ∧ Cur w' gc A n c bs ∧ Chg (fun y => y = gc) w.drew w'⟩,
     ⟨[42], fun l w' => ∃ x y : Int, (∃ F, (csteps (m.st ++ [(k, x, y)])).own w' F (l.getD 0 undef) ∧ ∀ z ∈ F, z ∈ F1 ∨ w.heap.size ≤ z) ∧ (0 ≤ x ∧ x < j ∧ 0 ≤ y ∧ y < j) ∧ Cur w' gc A n c bs ∧ Chg (fun y => y = gc ∨ (Value.slice A1 m.st.length c1).ownBlock = some y) w.drew w'⟩,
     ⟨[], fun _ w' => ∃ x y : Int, (0 ≤ x ∧ x < j ∧ 0 ≤ y ∧ y < j) ∧ ASE lo g { m with st := m.st ++ [(k, x, y)] } w' ∧ Cur w' gc A n c bs ∧ Chg (fun y => y = gc ∨ lo ≤ y) w w'⟩]
    (by kernel_rfl) (by kernel_rfl) (by kernel_rfl) 6 (by kernel_rfl) (by simp only [flOk, and_true]) rfl rfl ?_ ?_
  · simp only [hopsK, hopK, Kd.next, and_true]
    refine ⟨?_, ?_, ?_, ?_, ?_, ?_, ?_, ?_, ?_, ?_, ?_, ?_, ?_, ?_⟩
    · (intro f w4 hG hd; (try simp [depsC, dstAt, kAt, bindE, List.filter_cons, bd_data, bd_chain, bd_guard, bd_phase, bd_text, bd_gc] at hd); (first | simp [puts, dsts, Act.put, hd] | simp [puts, dsts, Act.put]); go_wp2_with fail; exact ⟨rfl, rfl⟩)
    · intro f w4 hG hd
      (try simp [depsC, dstAt, kAt, bindE, List.filter_cons, bd_data, bd_chain, bd_guard, bd_phase, bd_text, bd_gc] at hd)
      have B4 := BG.out.chg hG (fun e => SG _ e rfl)
      have b0 := B4.cell 1
      simp at b0
      (first | simp [puts, dsts, Act.put, hd] | simp [puts, dsts, Act.put])
      go_wp2_with fail
      exact ⟨rfl, rfl⟩
    · (intro f w4 hG hd; (try simp [depsC, dstAt, kAt, bindE, List.filter_cons, bd_data, bd_chain, bd_guard, bd_phase, bd_text, bd_gc] at hd); (first | simp [puts, dsts, Act.put, hd] | simp [puts, dsts, Act.put]); go_wp2_with fail; exact ⟨rfl, rfl⟩)
    · (intro f w4 hG hd; (try simp [depsC, dstAt, kAt, bindE, List.filter_cons, bd_data, bd_chain, bd_guard, bd_phase, bd_text, bd_gc] at hd); (first | simp [puts, dsts, Act.put, hd] | simp [puts, dsts, Act.put]); go_wp2_with fail; exact ⟨rfl, rfl⟩)
    · (intro f w4 hG hd; (try simp [depsC, dstAt, kAt, bindE, List.filter_cons, bd_data, bd_chain, bd_guard, bd_phase, bd_text, bd_gc] at hd); (first | simp [puts, dsts, Act.put, hd] | simp [puts, dsts, Act.put]); go_wp2_with fail; exact ⟨rfl, rfl⟩)
    · intro f w4 hG hI hd
      have hI : w4 = w.drew := hI
      subst hI
      (try simp [depsC, dstAt, kAt, bindE, List.filter_cons, bd_data, bd_chain, bd_guard, bd_phase, bd_text, bd_gc] at hd)
      (first | simp [puts, dsts, Act.put, hd] | simp [puts, dsts, Act.put])
      go_wp2_with fail
      refine (l01Below_c _ j (by omega) gc A n c bs HC.out).mono ?_
      rintro e w5 ⟨x, rfl, hx0, hx1, hc5, hg5⟩
      have H5 := Lib.hid hc5
      have hx2 := hx1 (by omega)
      have hch : Chg (fun y => y = gc) w.drew w5 := Chg.of hg5 (fun y h => by injection h with h; exact h.symm)
      clear hc5 hx1 hg5
      go_wp2_with fail
      exact ⟨_, rfl, ⟨⟨x, rfl, hx0, hx2⟩, H5.out, hch⟩, ⟨hch.mono (fun y hy => .inl hy), by simp [keepsC]⟩⟩
    · (intro f w4 hG hd; (try simp [depsC, dstAt, kAt, bindE, List.filter_cons, bd_data, bd_chain, bd_guard, bd_phase, bd_text, bd_gc] at hd); (first | simp [puts, dsts, Act.put, hd] | simp [puts, dsts, Act.put]); go_wp2_with fail; exact ⟨rfl, rfl⟩)
    · (intro f w4 hG hd; (try simp [depsC, dstAt, kAt, bindE, List.filter_cons, bd_data, bd_chain, bd_guard, bd_phase, bd_text, bd_gc] at hd); (first | simp [puts, dsts, Act.put, hd] | simp [puts, dsts, Act.put]); go_wp2_with fail; exact ⟨rfl, rfl⟩)
    · intro f w4 hG hI hd
      obtain ⟨⟨x, ex, hx0, hx1⟩, hc4, hch4⟩ := hI
      have EX : Hid (f 36 = .int .i64 x) := Lib.hid ex
      clear ex
      (try simp [depsC, dstAt, kAt, bindE, List.filter_cons, bd_data, bd_chain, bd_guard, bd_phase, bd_text, bd_gc] at hd)
      (first | simp [puts, dsts, Act.put, hd] | simp [puts, dsts, Act.put])
      go_wp2_with fail
      refine (l01Below_c _ j (by omega) gc A n c bs hc4).mono ?_
      rintro e w5 ⟨y, rfl, hy0, hy1, hc5, hg5⟩
      have H5 := Lib.hid hc5
      have hy2 := hy1 (by omega)
      have hch : Chg (fun y => y = gc) w4 w5 := Chg.of hg5 (fun y h => by injection h with h; exact h.symm)
      clear hc5 hy1 hg5
      go_wp2_with fail
      refine ⟨.int .i64 y, rfl, ⟨?_, H5.out, hch4.trans hch⟩, ⟨hch.mono (fun y hy => .inl hy), by simp [keepsC]⟩⟩
      exact ⟨x, y, by simpa [fAt, upd] using EX.out, by simp [fAt, upd], hx0, hx1, hy0, hy2⟩
    · intro f w4 hG hI hd
      obtain ⟨⟨x, y, ex, ey, hr⟩, hc4, hch⟩ := hI
      have ex : f 36 = .int .i64 x := ex
      have ey : f 39 = .int .i64 y := ey
      (try simp [depsC, dstAt, kAt, bindE, List.filter_cons, bd_data, bd_chain, bd_guard, bd_phase, bd_text, bd_gc] at hd)
      simp [puts, dsts, Act.put, hd, ex, ey]
      go_wp2_with fail
      exact ⟨_, rfl, ⟨⟨x, y, rfl, hr⟩, hc4, hch⟩, ⟨Chg.refl _ _, by simp [keepsC]⟩⟩
    · intro f w4 hG hI hd
      obtain ⟨⟨x, y, ex, hr⟩, hc4, hch⟩ := hI
      have ex : f 40 = .agg #[.int .i64 k, .int .i64 x, .int .i64 y] := ex
      clear hd
      simp [puts, dsts, Act.put, ex]
      go_wp2_with fail
      exact ⟨_, rfl, ⟨⟨x, y, ⟨_, rfl, by have := hch.size; simp at this; omega, Blk.new w4 _ _⟩, hr⟩, hc4.grow (gbA (gbR _ _) _), hch.trans (Chg.of (gbA (gbR _ none) _) (by simp))⟩, ⟨Chg.of (gbA (gbR _ none) _) (by simp), by simp [keepsC]⟩⟩
    · intro f w4 hG hI hd
      obtain ⟨⟨x, y, ⟨g9, e9, hg9, B9⟩, hr⟩, hc4, hch⟩ := hI
      have e9 : f 41 = .slice (some ⟨g9, 0, none⟩) 1 1 := e9
      (try simp [depsC, dstAt, kAt, bindE, List.filter_cons, bd_data, bd_chain, bd_guard, bd_phase, bd_text, bd_gc] at hd)
      simp [puts, dsts, Act.put, hd, e9]
      have n0 := B9.cell 0
      have n1 := B9.cell 1
      have n2 := B9.cell 2
      simp at n0 n1 n2
      refine wp_appendA w4 elStep rfl (.tmp 32) (.tmp 41) rfl 0 _ _ _ (Chg.own O1.out hch (fun y hy e => by have := (HS.out.l1 y (SF y hy)).1; omega)) rfl ⟨g9, 0, none⟩ 1 1 [.int .i64 k, .int .i64 x, .int .i64 y] rfl rfl ?_ (by simp [Value.oneCell']) (by unfold maxLen; omega) (by omega) (Nat.zero_le _) ?_
      · intro j u hu
        have hadd : (⟨g9, 0, none⟩ : Addr).add j = ⟨g9, j, none⟩ := by unfold Addr.add; split <;> simp_all
        rw [hadd]
        match j, hu with
        | 0, hu => simp at hu; rw [n0, hu]
        | 1, hu => simp at hu; rw [n1, hu]
        | 2, hu => simp at hu; rw [n2, hu]
        | j + 3, hu => simp at hu
      intro v' w6 o8 g8 k8
      have o8' := csteps_push (b := (k, x, y)) o8
      obtain ⟨A9, c9, hv9, e9', _⟩ := csteps_form o8'
      rw [show (m.st ++ [((k, x, y) : Int × Int × Int)]).length = m.st.length + 1 by simp] at hv9
      subst hv9
      have hC6 : Cur w6 gc A n c bs := by
        refine hc4.kept (Chg.of g8 (S := fun y => (Value.slice A1 m.st.length c1).ownBlock = some y) (fun y hy => hy)) (g8.block gc hc4.lt (fun e => ?_)) (fun hn a ha e => ?_)
        · have := (HS.out.l1 gc (SF gc e.symm)).1; omega
        · have := (HS.out.l1 _ (SF _ e)).1; have := hA hn a ha; omega
      go_wp2_with fail
      refine ⟨_, rfl, ⟨x, y, ⟨_, o8', fun y hy => ?_⟩, hr, hC6, (hch.mono (fun y hy => .inl hy)).trans (Chg.of g8 (fun y hy => .inr hy))⟩, ⟨Chg.of g8 (fun y hy => .inr hy), by simp [keepsC]⟩⟩
      rcases k8 y (by simpa using hy) with h1 | h1
      · exact .inl (SF y h1.symm)
      · exact .inr (by have := hch.size; simp at this; omega)
    · (intro f w4 hG hd; (try simp [depsC, dstAt, kAt, bindE, List.filter_cons, bd_data, bd_chain, bd_guard, bd_phase, bd_text, bd_gc] at hd); (first | simp [puts, dsts, Act.put, hd] | simp [puts, dsts, Act.put]); go_wp2_with fail; exact ⟨rfl, rfl⟩)
    · intro f w6 hG hI hd
      obtain ⟨x, y, ⟨F, o6, l6⟩, hr, hc6, hch⟩ := hI
      have o6 : (csteps (m.st ++ [(k, x, y)])).own w6 F (f 42) := o6
      obtain ⟨B, n', s', e53⟩ := row_form o6
      (try simp [depsC, dstAt, kAt, bindE, List.filter_cons, bd_data, bd_chain, bd_guard, bd_phase, bd_text, bd_gc] at hd)
      rw [e53] at o6
      have B6 := BG.out.chg hch (fun e => SG _ e rfl)
      have b1 := B6.cell 1
      have f1 := B6.frozen 1
      simp at b1
      have hS6 := HS.out.steps ((Chg.of (gbD (gbR w none)) (by simp)).trans hch) (fun y hy => by
        rcases hy with hy | hy
        · exact .inl (by omega)
        · exact .inr (SF y hy)) o6 l6
      have hC7 : Cur (w6.setCell ⟨g, 1, none⟩ (.slice B n' s')) gc A n c bs := hc6.kept (chgS w6 g 1 _) ((chgS w6 g 1 (.slice B n' s')).block gc hc6.lt (fun e => by have := LG.out; omega)) (fun hn a ha e => by have := hA hn a ha; have := LG.out; omega)
      have hT : Chg (fun y => y = gc ∨ lo ≤ y) w (w6.setCell ⟨g, 1, none⟩ (.slice B n' s')) := (((Chg.of (gbD (gbR w none)) (by simp)).trans hch).mono (fun y hy => by
        rcases hy with hy | hy
        · exact .inl hy
        · exact .inr (HS.out.l1 y (SF y hy)).1)).trans ((chgS w6 g 1 _).mono (fun y hy => .inr (by rw [hy]; exact LG.out)))
      simp [puts, dsts, Act.put, hd, e53]
      go_wp2_with fail
      exact ⟨rfl, .bool false, x, y, hr, ⟨_, _, _, _, hS6⟩, hC7, hT⟩
  · intro f w6 hI hd
    obtain ⟨x, y, ⟨hx0, hx1, hy0, hy1⟩, hS, hC, hch⟩ := hI
    clear hd
    simp only [puts, dsts, Act.put, List.filterMap_cons, List.filterMap_nil, List.setIfInBounds_toArray, List.set_cons_zero, List.set_cons_succ]
    exact HQ.out x y _ _ _ _ _ _ _ _ _ _ _ _ _ w6 hx0 hx1 hy0 hy1 hS hC hch
set_option maxHeartbeats 4000000 in
set_option maxRecDepth 1000000 in
theorem l27R20 (lo g gc : Nat) (m : AM) (j : Nat) (A : Option Addr) (n c : Nat) (bs : List Int) (w : World) (hs : ASE lo g m w) (hc : Cur w gc A n c bs) (hgc : gc < lo) (hA : 0 < n → ∀ a, A = some a → a.block < lo) (hm : m.outs.length ≤ 60) (hj0 : 1 ≤ j) (hj1 : j ≤ 60)
    (Q : Exit → Act → World → Prop) (s1 s2 s5 s6 s7 s8 s9 s10 s11 s12 s13 s14 s15 s16 s17 s18 s19 s20 s21 s22 s23 s24 s25 s26 s27 s28 s29 s30 s31 s32 s33 s34 s35 s36 s37 s38 s39 s40 s41 s42 s43 s44 s45 s46 s47 s48 s49 s50 s51 s52 s53 s54 s55 s56 s57 s58 s59 s60 s61 s62 s63 s64 s65 s66 s67 s68 s69 s70 s71 s72 s73 s74 s75 s76 s77 s78 s79 s80 s81 s82 s83 : Value)
    (hQ : ∀ (x : Int) (v75 v76 v77 v78 v79 v80 v81 v82 : Value) (w' : World), 0 ≤ x → x < j → ASE lo g { m with outs := m.outs ++ [x] } w' → Cur w' gc A n c bs → Chg (fun y => y = gc ∨ lo ≤ y) w w' →
      Q .normal (⟨List.toArray ((.pointer (some ⟨gc, 0, none⟩)) :: s1 :: s2 :: (.pointer (some ⟨g, 0, none⟩)) :: (.int .i64 j) :: s5 :: s6 :: s7 :: s8 :: s9 :: s10 :: s11 :: s12 :: s13 :: s14 :: s15 :: s16 :: s17 :: s18 :: s19 :: s20 :: s21 :: s22 :: s23 :: s24 :: s25 :: s26 :: s27 :: s28 :: s29 :: s30 :: s31 :: s32 :: s33 :: s34 :: s35 :: s36 :: s37 :: s38 :: s39 :: s40 :: s41 :: s42 :: s43 :: s44 :: s45 :: s46 :: s47 :: s48 :: s49 :: s50 :: s51 :: s52 :: s53 :: s54 :: s55 :: s56 :: s57 :: s58 :: s59 :: s60 :: s61 :: s62 :: s63 :: s64 :: s65 :: s66 :: s67 :: s68 :: s69 :: s70 :: s71 :: s72 :: s73 :: s74 :: v75 :: v76 :: v77 :: v78 :: v79 :: v80 :: v81 :: v82 :: s83 :: []), []⟩ : Act) w') :
    Code.wp Try.prog (regNo Try.f107 20) Q (⟨List.toArray ((.pointer (some ⟨gc, 0, none⟩)) :: s1 :: s2 :: (.pointer (some ⟨g, 0, none⟩)) :: (.int .i64 j) :: s5 :: s6 :: s7 :: s8 :: s9 :: s10 :: s11 :: s12 :: s13 :: s14 :: s15 :: s16 :: s17 :: s18 :: s19 :: s20 :: s21 :: s22 :: s23 :: s24 :: s25 :: s26 :: s27 :: s28 :: s29 :: s30 :: s31 :: s32 :: s33 :: s34 :: s35 :: s36 :: s37 :: s38 :: s39 :: s40 :: s41 :: s42 :: s43 :: s44 :: s45 :: s46 :: s47 :: s48 :: s49 :: s50 :: s51 :: s52 :: s53 :: s54 :: s55 :: s56 :: s57 :: s58 :: s59 :: s60 :: s61 :: s62 :: s63 :: s64 :: s65 :: s66 :: s67 :: s68 :: s69 :: s70 :: s71 :: s72 :: s73 :: s74 :: s75 :: s76 :: s77 :: s78 :: s79 :: s80 :: s81 :: s82 :: s83 :: []), []⟩ : Act) w := by
  conv => arg 2; whnf
  have HQ := Lib.hid hQ
  have HC := Lib.hid (hc.grow (gbD (gbR w none)))
  obtain ⟨u1, u2, F1, F2, hS⟩ := hs
  obtain ⟨A1, c1, rfl, eF1, o1'⟩ := cints_row hS.o
  have o1 := o1' 0 (by simp)
  have HS := Lib.hid hS
  have SF : ∀ y, (Value.slice A1 m.outs.length c1).ownBlock = some y → y ∈ F2 := fun y hy => by rw [eF1]; simpa using hy
  have SG : ∀ y, (y = gc ∨ (Value.slice A1 m.outs.length c1).ownBlock = some y) → y ≠ g := fun y hy e => by
    rcases hy with hy | hy
    · have := hS.lg; omega
    · exact (hS.l2 y (SF y hy)).2 e
  have BG := Lib.hid (hS.blk.grow (gbD (gbR w none)))
  have O1 := Lib.hid (own_grow o1 (gbD (gbR w none)))
  have LG := Lib.hid hS.lg
  clear hQ hc hS o1 o1' eF1
  refine region_chain [.rd (.pointer (some ⟨g, 2, none⟩)), .rd (.slice A1 m.outs.length c1), .rd (.pointer (some ⟨gc, 0, none⟩)), .rd (.int .i64 j), .ch, .ch, .ch, .rd (.pointer (some ⟨g, 2, none⟩)), .ch] (fun y => y = gc ∨ (Value.slice A1 m.outs.length c1).ownBlock = some y)
    [⟨[], fun _ w' => w' = w.drew⟩,
     ⟨[79], fun l w' => (∃ x : Int, l.getD 0 undef = .int .i64 x ∧ 0 ≤ x ∧ x < j) ∧ Cur w' gc A n c bs ∧ Chg (fun y => y = gc) w.drew w'⟩,
     ⟨[80], fun l w' => (∃ x : Int, lit1N w.heap.size 3 #[.int .i64 x] (l.getD 0 undef) w' ∧ 0 ≤ x ∧ x < j) ∧ Cur w' gc A n c bs ∧ Chg (fun y => y = gc) w.drew w'⟩,
     ⟨[81], fun l w' => ∃ x : Int, (∃ F, (cints (m.outs ++ [x])).own w' F (l.getD 0 undef) ∧ ∀ y ∈ F, y ∈ F2 ∨ w.heap.size ≤ y) ∧ 0 ≤ x ∧ x < j ∧ Cur w' gc A n c bs ∧ Chg (fun y => y = gc ∨ (Value.slice A1 m.outs.length c1).ownBlock = some y) w.drew w'⟩,
     ⟨[], fun _ w' => ∃ x : Int, 0 ≤ x ∧ x < j ∧ ASE lo g { m with outs := m.outs ++ [x] } w' ∧ Cur w' gc A n c bs ∧ Chg (fun y => y = gc ∨ lo ≤ y) w w'⟩]
    (by kernel_rfl) (by kernel_rfl) (by kernel_rfl) 4 (by kernel_rfl) (by simp only [flOk, and_true]) rfl rfl ?_ ?_
  · simp only [hopsK, hopK, Kd.next, and_true]
    refine ⟨?_, ?_, ?_, ?_, ?_, ?_, ?_, ?_, ?_⟩
    · (intro f w4 hG hd; (try simp [depsC, dstAt, kAt, bindE, List.filter_cons, bd_data, bd_chain, bd_guard, bd_phase, bd_text, bd_gc] at hd); (first | simp [puts, dsts, Act.put, hd] | simp [puts, dsts, Act.put]); go_wp2_with fail; exact ⟨rfl, rfl⟩)
    · intro f w4 hG hd
      (try simp [depsC, dstAt, kAt, bindE, List.filter_cons, bd_data, bd_chain, bd_guard, bd_phase, bd_text, bd_gc] at hd)
      have B4 := BG.out.chg hG (fun e => SG _ e rfl)
      have b0 := B4.cell 2
      simp at b0
      (first | simp [puts, dsts, Act.put, hd] | simp [puts, dsts, Act.put])
      go_wp2_with fail
      exact ⟨rfl, rfl⟩
    · (intro f w4 hG hd; (try simp [depsC, dstAt, kAt, bindE, List.filter_cons, bd_data, bd_chain, bd_guard, bd_phase, bd_text, bd_gc] at hd); (first | simp [puts, dsts, Act.put, hd] | simp [puts, dsts, Act.put]); go_wp2_with fail; exact ⟨rfl, rfl⟩)
    · (intro f w4 hG hd; (try simp [depsC, dstAt, kAt, bindE, List.filter_cons, bd_data, bd_chain, bd_guard, bd_phase, bd_text, bd_gc] at hd); (first | simp [puts, dsts, Act.put, hd] | simp [puts, dsts, Act.put]); go_wp2_with fail; exact ⟨rfl, rfl⟩)
    · intro f w4 hG hI hd
      have hI : w4 = w.drew := hI
      subst hI
      (try simp [depsC, dstAt, kAt, bindE, List.filter_cons, bd_data, bd_chain, bd_guard, bd_phase, bd_text, bd_gc] at hd)
      (first | simp [puts, dsts, Act.put, hd] | simp [puts, dsts, Act.put])
      go_wp2_with fail
      refine (l01Below_c _ j (by omega) gc A n c bs HC.out).mono ?_
      rintro e w5 ⟨x, rfl, hx0, hx1, hc5, hg5⟩
      have H5 := Lib.hid hc5
      have hx2 := hx1 (by omega)
      have hch : Chg (fun y => y = gc) w.drew w5 := Chg.of hg5 (fun y h => by injection h with h; exact h.symm)
      clear hc5 hx1 hg5
      go_wp2_with fail
      exact ⟨_, rfl, ⟨⟨x, rfl, hx0, hx2⟩, H5.out, hch⟩, ⟨hch.mono (fun y hy => .inl hy), by simp [keepsC]⟩⟩
    · intro f w4 hG hI hd
      obtain ⟨⟨x, ex, hx0, hx1⟩, hc4, hch⟩ := hI
      have ex : f 79 = .int .i64 x := ex
      clear hd
      simp [puts, dsts, Act.put, ex]
      go_wp2_with fail
      exact ⟨_, rfl, ⟨⟨x, ⟨_, rfl, by have := hch.size; simp at this; omega, Blk.new w4 _ _⟩, hx0, hx1⟩, hc4.grow (gbA (gbR _ _) _), hch.trans (Chg.of (gbA (gbR _ none) _) (by simp))⟩, ⟨Chg.of (gbA (gbR _ none) _) (by simp), by simp [keepsC]⟩⟩
    · intro f w4 hG hI hd
      obtain ⟨⟨x, ⟨g9, e9, hg9, B9⟩, hx0, hx1⟩, hc4, hch⟩ := hI
      have e9 : f 80 = .slice (some ⟨g9, 0, none⟩) 1 1 := e9
      (try simp [depsC, dstAt, kAt, bindE, List.filter_cons, bd_data, bd_chain, bd_guard, bd_phase, bd_text, bd_gc] at hd)
      simp [puts, dsts, Act.put, hd, e9]
      have n0 := B9.cell 0
      simp at n0
      refine wp_appendA w4 el_int rfl (.tmp 76) (.tmp 80) rfl 0 _ _ _ (Chg.own O1.out hch (fun y hy e => by have := (HS.out.l2 y (SF y hy)).1; omega)) rfl ⟨g9, 0, none⟩ 1 1 [.int .i64 x] rfl rfl ?_ (by simp [Value.oneCell']) (by unfold maxLen; omega) (by omega) (Nat.zero_le _) ?_
      · intro j u hu
        have hadd : (⟨g9, 0, none⟩ : Addr).add j = ⟨g9, j, none⟩ := by unfold Addr.add; split <;> simp_all
        rw [hadd]
        match j, hu with
        | 0, hu => simp at hu; rw [n0, hu]
        | i + 1, hu => simp at hu
      intro v' w6 o8 g8 k8
      have o8' : (cints (m.outs ++ [x])).own w6 v'.ownBlock.toList v' := cints_own (by simpa using o8)
      obtain ⟨A9, c9, hv9, e9', _⟩ := cints_row o8'
      rw [show (m.outs ++ [x]).length = m.outs.length + 1 by simp] at hv9
      subst hv9
      have hC6 : Cur w6 gc A n c bs := by
        refine hc4.kept (Chg.of g8 (S := fun y => (Value.slice A1 m.outs.length c1).ownBlock = some y) (fun y hy => hy)) (g8.block gc hc4.lt (fun e => ?_)) (fun hn a ha e => ?_)
        · have := (HS.out.l2 gc (SF gc e.symm)).1; omega
        · have := (HS.out.l2 _ (SF _ e)).1; have := hA hn a ha; omega
      go_wp2_with fail
      refine ⟨_, rfl, ⟨x, ⟨_, o8', fun y hy => ?_⟩, hx0, hx1, hC6, (hch.mono (fun y hy => .inl hy)).trans (Chg.of g8 (fun y hy => .inr hy))⟩, ⟨Chg.of g8 (fun y hy => .inr hy), by simp [keepsC]⟩⟩
      rcases k8 y (by simpa using hy) with h1 | h1
      · exact .inl (SF y h1.symm)
      · exact .inr (by have := hch.size; simp at this; omega)
    · (intro f w4 hG hd; (try simp [depsC, dstAt, kAt, bindE, List.filter_cons, bd_data, bd_chain, bd_guard, bd_phase, bd_text, bd_gc] at hd); (first | simp [puts, dsts, Act.put, hd] | simp [puts, dsts, Act.put]); go_wp2_with fail; exact ⟨rfl, rfl⟩)
    · intro f w6 hG hI hd
      obtain ⟨x, ⟨F, o6, l6⟩, hx0, hx1, hc6, hch⟩ := hI
      have o6 : (cints (m.outs ++ [x])).own w6 F (f 81) := o6
      obtain ⟨B, n', s', e53⟩ := row_form o6
      (try simp [depsC, dstAt, kAt, bindE, List.filter_cons, bd_data, bd_chain, bd_guard, bd_phase, bd_text, bd_gc] at hd)
      rw [e53] at o6
      have B6 := BG.out.chg hch (fun e => SG _ e rfl)
      have b1 := B6.cell 2
      have f1 := B6.frozen 2
      simp at b1
      have hS6 := HS.out.outs ((Chg.of (gbD (gbR w none)) (by simp)).trans hch) (fun y hy => by
        rcases hy with hy | hy
        · exact .inl (by omega)
        · exact .inr (SF y hy)) o6 l6
      have hC7 : Cur (w6.setCell ⟨g, 2, none⟩ (.slice B n' s')) gc A n c bs := hc6.kept (chgS w6 g 2 _) ((chgS w6 g 2 (.slice B n' s')).block gc hc6.lt (fun e => by have := LG.out; omega)) (fun hn a ha e => by have := hA hn a ha; have := LG.out; omega)
      have hT : Chg (fun y => y = gc ∨ lo ≤ y) w (w6.setCell ⟨g, 2, none⟩ (.slice B n' s')) := (((Chg.of (gbD (gbR w none)) (by simp)).trans hch).mono (fun y hy => by
        rcases hy with hy | hy
        · exact .inl hy
        · exact .inr (HS.out.l2 y (SF y hy)).1)).trans ((chgS w6 g 2 _).mono (fun y hy => .inr (by rw [hy]; exact LG.out)))
      simp [puts, dsts, Act.put, hd, e53]
      go_wp2_with fail
      exact ⟨rfl, .bool false, x, hx0, hx1, ⟨_, _, _, _, hS6⟩, hC7, hT⟩
  · intro f w6 hI hd
    obtain ⟨x, hx0, hx1, hS, hC, hch⟩ := hI
    clear hd
    simp only [puts, dsts, Act.put, List.filterMap_cons, List.filterMap_nil, List.setIfInBounds_toArray, List.set_cons_zero, List.set_cons_succ]
    exact HQ.out x _ _ _ _ _ _ _ _ w6 hx0 hx1 hS hC hch
end Go.Proofs.Ythaadgdeadbhkaa
