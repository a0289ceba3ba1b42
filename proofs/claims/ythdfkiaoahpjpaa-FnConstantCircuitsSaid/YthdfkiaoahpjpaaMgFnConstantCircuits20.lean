/-
  append onto a new empty row: where the result lies, told apart.
-/
import Derived.Test.YthdfkiaoahpjpaaMgFnConstantCircuits19
namespace Go.Proofs.Ythdfkiaoahpjpaa
open Go.RowKit
set_option linter.unusedVariables false
set_option linter.unusedSimpArgs false
section
variable {P : Program}
variable {ops : Array Oper} {rest : List Oper} {o : Oper} {a : Act} {Q : Exit → Act → World → Prop}
end
end Go.Proofs.Ythdfkiaoahpjpaa
/-
  A circuit that is being built: its block, one gate more (reference and program).
-/
namespace Go.Proofs.Ythdfkiaoahpjpaa
open Go.RowKit
set_option linter.unusedVariables false
set_option linter.unusedSimpArgs false
def GBT (T : TypeId) (lo : Nat) (w : World) (y : Nat) : Prop := lo ≤ y ∧ ∀ cur e z, w.heap[y]? = some (.cells cur e z) → e = T ∨ e = 41
theorem GBT.trans {T : TypeId} {lo : Nat} {a b c : World} (h : Chg (GBT T lo a) a b) (k : Chg (GBT T lo b) b c) : Chg (GBT T lo a) a c := by
  refine h.join k fun i hi => ?_
  rcases Nat.lt_or_ge i a.heap.size with h1 | h1
  · left
    by_cases h2 : GBT T lo a i
    · exact h2
    · refine ⟨hi.1, fun cur e z hc => hi.2 cur e z ?_⟩
      rw [h.block i h1 h2]
      exact hc
  · exact .inr h1
theorem GBT.grow {T : TypeId} {lo : Nat} {a b : World} (h : a.grownBy b none) : Chg (GBT T lo a) a b := Chg.of h (by simp)
theorem GBT.base {T : TypeId} {w0 a b : World} (h : w0.grownBy a none) (k : Chg (GBT T w0.heap.size a) a b) : w0.grownBy b none := gbChg h k fun y hy => hy.1
theorem GBT.own {T : TypeId} {lo : Nat} {a b : World} (k : Chg (GBT T lo a) a b) (hT : T ≠ 3) {xs : List Int} {F : List Nat} {v : Value} (h : (cints xs).own a F v) : (cints xs).own b F v := by
  refine own_chgK _ h k fun g hg hs => ?_
  obtain ⟨cur, e, z, hc, he⟩ := (tyd_plst (Ts := [3]) (by simp)) a F v h g hg
  have he : e = 3 := by simpa using he
  rcases hs.2 cur e z hc with h1 | h1
  · exact hT (h1.symm.trans he)
  · rw [he] at h1
    exact absurd h1 (by decide)
theorem GBT.ownF {T : TypeId} {lo l2 : Nat} {a b : World} (k : Chg (GBT T lo a) a b) (hT : T ≠ 3) {xs : List Int} {v : Value} (h : ownF l2 (cints xs) v a) : ownF l2 (cints xs) v b := by
  obtain ⟨F, h1, h2⟩ := h
  exact ⟨F, GBT.own k hT h1, h2⟩
def BS (T : TypeId) (lo hi : Nat) (m : CM) (g : Nat) (w : World) : Prop := lo ≤ g ∧ g < hi ∧ ∃ u0 u1 F0 F1, Blk w g T #[u0, u1] ∧ (cgates m.gt).own w F0 u0 ∧ (cints m.outs).own w F1 u1 ∧ (∀ x ∈ F0, lo ≤ x) ∧ ∀ x ∈ F1, lo ≤ x ∧ x < hi
theorem BS.grow {T : TypeId} {lo hi g : Nat} {m : CM} {w w' : World} (h : BS T lo hi m g w) (k : w.grownBy w' none) : BS T lo hi m g w' := by
  obtain ⟨h1, h2, u0, u1, F0, F1, hb, o0, o1, l0, l1⟩ := h
  exact ⟨h1, h2, u0, u1, F0, F1, hb.grow k, own_growK _ o0 k, own_growK _ o1 k, l0, l1⟩
theorem BS.chg {T : TypeId} {lo hi g : Nat} {m : CM} {w w' : World} {S : Nat → Prop} (h : BS T lo hi m g w) (k : Chg S w w') (hS : ∀ y, S y → hi ≤ y ∧ ∃ U us, Blk w y U us ∧ U ≠ 41) : BS T lo hi m g w' := by
  obtain ⟨h1, h2, u0, u1, F0, F1, hb, o0, o1, l0, l1⟩ := h
  refine ⟨h1, h2, u0, u1, F0, F1, hb.chg k (fun hs => by have := (hS g hs).1; omega), own_chgK _ o0 k (fun x hx hs => ?_), own_chgK _ o1 k (fun x hx hs => by have := (hS x hs).1; have := (l1 x hx).2; omega), l0, l1⟩
  obtain ⟨_, U, us, B, hU⟩ := hS x hs
  exact own_ty (Ts := [41]) (tyd_plst (by simp)) o0 B (by simpa using hU) hx
def Bld (T : TypeId) (lo hi : Nat) (m : CM) (g : Nat) (w w' : World) : Prop := BS T lo hi m g w' ∧ Chg (GBT T lo w) w w'
theorem Bld.trans {T : TypeId} {lo hi g : Nat} {m m' : CM} {a b c : World} (h : Bld T lo hi m g a b) (k : Bld T lo hi m' g b c) : Bld T lo hi m' g a c := ⟨k.1, GBT.trans h.2 k.2⟩
theorem Bld.grow {T : TypeId} {lo hi g : Nat} {m : CM} {a b c : World} (h : Bld T lo hi m g a b) (k : b.grownBy c none) : Bld T lo hi m g a c := ⟨h.1.grow k, GBT.trans h.2 (GBT.grow k)⟩
theorem own_blk9 {w : World} {b s n : Nat} {e : TypeId} {v : Value} {vs : List Value} (h : w.ownsRow b e s v n vs) {g : Nat} (hg : v.ownBlock = some g) : ∃ cur, Blk w g e cur ∧ b ≤ g := by
  rcases h.2 with ⟨e1, _⟩ | ⟨g1, cap, cur, hv, hb, hg1, _⟩
  · rw [e1] at hg; cases hg
  · rw [hv] at hg
    have : g1 = g := by simpa [Value.ownBlock] using hg
    subst this
    exact ⟨_, hg1, hb⟩
def CM.put (m : CM) (k x y : Int) : CM := { m with gt := m.gt ++ [(k, x, y)] }
set_option maxHeartbeats 4000000 in
set_option maxRecDepth 100000 in
theorem specgate_c (m : CM) (g lo hi : Nat) (k x y : Int) (w : World) (h : BS 28 lo hi m g w) (hm : m.gt.length ≤ 100000) (hlo : lo ≤ w.heap.size) :
    Calls Try.prog 93 #[.pointer (some ⟨g, 0, none⟩), .int .i64 k, .int .i64 x, .int .i64 y] w fun e w' => e = .returned (.int .i64 m.gt.length) ∧ Bld 28 lo hi (m.put k x y) g w w' := by
  obtain ⟨hg, hgh, u0, u1, F0, F1, hb, o0, o1, l0, l1⟩ := h
  obtain ⟨A, c, rfl, hFi, hrow⟩ := plst_row (s := 3) (fun _ => rfl) (by omega) o0
  have c0 := hb.cell 0
  have f0 := hb.frozen 0
  simp only [List.getElem?_toArray, List.getElem?_cons_succ, List.getElem?_cons_zero] at c0
  have ROW := Lib.hid (hrow lo l0)
  have HFI := Lib.hid hFi
  have HB := Lib.hid hb
  have O1 := Lib.hid o1
  have L0 := Lib.hid l0
  have L1 := Lib.hid l1
  have g0 : g ∉ F0 := own_ty (Ts := [41]) (tyd_plst (by simp)) o0 hb (by decide)
  have G0 := Lib.hid g0
  have hgl := hb.lt
  have HGT : Hid (∀ y, y = g ∨ y ∈ F0 → GBT 28 lo w y) := Lib.hid (fun y hy => by
    rcases hy with rfl | hy
    · refine ⟨hg, fun cur e z hc => .inl ?_⟩
      unfold Blk at hb
      rw [hb] at hc
      injection hc with hc
      injection hc with _ h3 _
      exact h3.symm
    · refine ⟨l0 y hy, fun cur e z hc => .inr ?_⟩
      obtain ⟨cur2, e2, z2, hc2, he2⟩ := (tyd_plst (Ts := [41]) (by simp)) w F0 _ o0 y hy
      rw [hc2] at hc
      injection hc with hc
      injection hc with _ h3 _
      rw [← h3]
      simpa using he2)
  clear hb o0 o1 l0 l1 hFi hrow g0
  go_enter Try.func93, Try.ntmps93
  go_wp2_with (at_builtin; refine wp_appendG w w.heap.size rfl elGate rfl (.tmp 13) (.tmp 18) rfl #[.int .i64 k, .int .i64 x, .int .i64 y] rfl (by simp [Value.oneCell']) lo (.slice A m.gt.length c) m.gt.length (m.gt.flatMap c3) ROW.out rfl rfl (by unfold maxLen; omega) (by omega) hlo ?_; intro v' w9 o9 g9 k9; have gw : w.grownBy w9 (Value.slice A m.gt.length c).ownBlock := gbT (gbA (gbR w _) _) g9; have CH : Chg (fun y => y ∈ F0) w w9 := Chg.of gw (fun y hy => by rw [HFI.out, hy]; simp); have o9' : w9.ownsRow lo 41 3 v' (m.gt.length + 1) ((m.gt ++ [(k, x, y)]).flatMap c3) := (by rw [List.flatMap_append]; simpa [c3] using o9); obtain ⟨A6, c6, hv6, _⟩ := own_form o9'; have q0 := CH.cell c0 hgl G0.out; have q1 := CH.frozen f0 hgl G0.out; have O9 := Lib.hid o9'; have CH := Lib.hid CH; clear o9 g9 k9 gw o9'; subst hv6)
  have own9 := plst_own (s := 3) (fun _ => rfl) (by omega) c3_one O9.out
  have hB9 : Blk w9 g 28 #[.slice A m.gt.length c, u1] := HB.out.chg CH.out G0.out
  have hCS := chgS w9 g 0 (.slice A6 (m.gt.length + 1) c6)
  have hCH : Chg (GBT 28 lo w) w (w9.setCell ⟨g, 0, none⟩ (.slice A6 (m.gt.length + 1) c6)) := (CH.out.mono (fun y hy => HGT.out y (.inr hy))).trans (hCS.mono (fun y hy => HGT.out y (.inl hy)))
  refine bodyPost_ret (v := .int .i64 m.gt.length) (by simp [results, Try.results93]) rfl ?_
  refine ⟨rfl, ⟨hg, hgh, _, u1, (Value.slice A6 (m.gt.length + 1) c6).ownBlock.toList, F1, by simpa using hB9.set_ 0 (.slice A6 (m.gt.length + 1) c6), ?_, GBT.own hCH (by decide) O1.out, ?_, L1.out⟩, hCH⟩
  · refine own_chgK _ own9 hCS (fun z hz e => ?_)
    rw [e] at hz
    exact own_ty (Ts := [41]) (tyd_plst (by simp)) own9 hB9 (by decide) hz
  · intro z hz
    obtain ⟨_, _, hz9⟩ := own_blk9 O9.out (by simpa using hz)
    exact hz9
end Go.Proofs.Ythdfkiaoahpjpaa
/-
  A region that draws its order and holds calls that build a circuit: the blocks that they touch.
-/
namespace Go.Proofs.Ythdfkiaoahpjpaa
open Go.RowKit
set_option linter.unusedVariables false
set_option linter.unusedSimpArgs false
open Classical in
noncomputable def tchB (K : Nat) (S : Nat → Prop) (n : Nat) : List (Nat × Nat) := ((List.range n).filter fun b => decide (S b)).map fun b => (K, b)
theorem tchB_mem {K n s b : Nat} {S : Nat → Prop} : (s, b) ∈ tchB K S n ↔ s = K ∧ b < n ∧ S b := by
  unfold tchB
  simp only [List.mem_map, List.mem_filter, List.mem_range, decide_eq_true_eq, Prod.mk.injEq]
  constructor
  · rintro ⟨x, ⟨h1, h2⟩, rfl, rfl⟩
    exact ⟨rfl, h1, h2⟩
  · rintro ⟨rfl, h1, h2⟩
    exact ⟨b, ⟨h1, h2⟩, rfl, rfl⟩
theorem gbB {ops : Array Oper} {W w : World} {k K : Nat} {S : Nat → Prop} (hG : Chg (fun b => ∃ s, (s, b) ∈ tchB K S W.heap.size) W w) (pre : ∀ b, b < W.heap.size → (∀ s, (s, b) ∈ tchB K S W.heap.size → aheadB ops s k = true) → w.heap[b]? = W.heap[b]?) (ha : aheadB ops K k = true) : W.grownBy w none :=
  ⟨hG.os, hG.tape, hG.output, hG.size, fun i hi _ => pre i hi fun s hs => by
    obtain ⟨rfl, _⟩ := tchB_mem.1 hs
    exact ha⟩
theorem tchB_chg {T : TypeId} {lo K : Nat} {W w w' : World} (hg : W.grownBy w none) (h : Chg (GBT T lo w) w w') : Chg (fun b => W.heap.size ≤ b ∨ (K, b) ∈ tchB K (GBT T lo W) W.heap.size) w w' :=
  h.mono fun b hb => by
    rcases Nat.lt_or_ge b W.heap.size with h1 | h1
    · right
      refine tchB_mem.2 ⟨rfl, h1, hb.1, fun cur e z hc => hb.2 cur e z ?_⟩
      rw [hg.block b h1 (by simp)]
      exact hc
    · exact .inl h1
end Go.Proofs.Ythdfkiaoahpjpaa
/-
  The laws' helpers on slices of numbers that are a little longer than the greatest size (printed from XTabK).
-/
namespace Go.Proofs.Ythdfkiaoahpjpaa
open Go.RowKit
set_option linter.unusedVariables false
set_option linter.unusedSimpArgs false
end Go.Proofs.Ythdfkiaoahpjpaa
/-
  The program's builder: adder, nots, sum.
-/
namespace Go.Proofs.Ythdfkiaoahpjpaa
open Go.RowKit
set_option linter.unusedVariables false
set_option linter.unusedSimpArgs false
theorem put_len (m : CM) (k x y : Int) : (m.put k x y).gt.length = m.gt.length + 1 := by unfold CM.put; simp
def adderM (m : CM) (x y c : Int) : CM := ((((m.put 3 x c).put 3 y c).put 3 x (m.put 3 x c).gt.length).put 4 m.gt.length (m.put 3 x c).gt.length).put 3 (((m.put 3 x c).put 3 y c).put 3 x (m.put 3 x c).gt.length).gt.length c
theorem adder_len (m : CM) (x y c : Int) : (adderM m x y c).gt.length = m.gt.length + 5 := by unfold adderM; simp only [put_len]
def SRV (T : TypeId) (lo : Nat) (w : World) (A : Option Addr) (n : Nat) (xs : List Int) : Prop := ∀ w', Chg (GBT T lo w) w w' → Ints w' A n xs
theorem SRV.next {T : TypeId} {lo : Nat} {w w' : World} {A : Option Addr} {n : Nat} {xs : List Int} (h : SRV T lo w A n xs) (k : Chg (GBT T lo w) w w') : SRV T lo w' A n xs := fun w2 h2 => h w2 (GBT.trans k h2)
theorem SRV.now {T : TypeId} {lo : Nat} {w : World} {A : Option Addr} {n : Nat} {xs : List Int} (h : SRV T lo w A n xs) : Ints w A n xs := h w (Chg.refl _ _)
theorem SRV.grow {T : TypeId} {lo : Nat} {w w' : World} {A : Option Addr} {n : Nat} {xs : List Int} (h : SRV T lo w A n xs) (k : w.grownBy w' none) : SRV T lo w' A n xs := h.next (GBT.grow k)
theorem SRV.own {T : TypeId} {lo l2 : Nat} {w : World} {A : Option Addr} {n c : Nat} {xs : List Int} (h : ownF l2 (cints xs) (.slice A n c) w) (hT : T ≠ 3) : SRV T lo w A n xs := fun w' k => by
  obtain ⟨F, h1, _⟩ := GBT.ownF k hT h
  obtain ⟨A', c', e, _, _, hI⟩ := cints_rd ((cints xs).toRd h1)
  injection e with e1 e2 _
  subst e1; subst e2
  exact hI
end Go.Proofs.Ythdfkiaoahpjpaa
/-
  Costs: the walks of CostWithin and AddCosts, in the reference and in the program, and of the two laws.
-/
namespace Go.Proofs.Ythdfkiaoahpjpaa
open Go.RowKit
set_option linter.unusedVariables false
set_option linter.unusedSimpArgs false
end Go.Proofs.Ythdfkiaoahpjpaa
