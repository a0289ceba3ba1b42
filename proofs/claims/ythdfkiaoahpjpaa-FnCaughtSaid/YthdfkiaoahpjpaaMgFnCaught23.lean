/-
  append onto a new empty row: where the result lies, told apart.
-/
import Derived.Test.YthdfkiaoahpjpaaMgFnCaught22
namespace Go.Proofs.Ythdfkiaoahpjpaa
open Go.RowKit
set_option linter.unusedVariables false
set_option linter.unusedSimpArgs false
section
variable {P : Program}
theorem run_append_empty2 (w : World) (t ty e : TypeId) (i : TypeInfo) (z : Value) (size bytes : Nat) (ht : P.underlying t = some (.slice e)) (hi : P.info? e = some i) (hz : i.zero = some z)
    (hsize : i.size = size) (hby : i.bytes = bytes) (hzs : z.cells.size = size) (hsz : 0 < size)
    (g : Nat) (hown : w.ownsRow 0 e size (.slice (some ⟨g, 0, none⟩) 0 0) 0 [])
    (a : Addr) (m c : Nat) (news : List Value) (hl : news.length = m * size) (hnews : ∀ j u, news[j]? = some u → w.cell? (a.add j) = some u) (h1 : ∀ u ∈ news, u.oneCell' = true)
    (h63 : m ≤ maxLen) (hbytes : m * bytes ≤ 140737488355328) :
    ∃ v' w', (Builtin.append_ #[t, t] ty #[.slice (some ⟨g, 0, none⟩) 0 0, .slice (some a) m c]).run P w = .ok v' w' ∧ w'.ownsRow 0 e size v' m news ∧ w.grownBy w' none ∧ (∀ g', v'.ownBlock = some g' → g' = g ∨ (w.heap.size ≤ g' ∧ 0 < m)) := by
  subst hsize
  subst hby
  rcases Nat.eq_zero_or_pos m with h0 | h0
  · subst h0
    obtain rfl : news = [] := List.eq_nil_of_length_eq_zero (by simpa using hl)
    have hr := run_append_room_cells (P := P) (w := w) t ty e i ht hi g 0 0 0 a 0 c [] (by simp) (by simp) (by simp) (by simp) (by simp) (by simp)
    refine ⟨_, _, hr, ?_, ?_, ?_⟩
    · exact hown
    · exact gbR _ _
    · intro g' hg'
      simp [Value.ownBlock] at hg'
      exact .inl hg'.symm
  · obtain ⟨v', w', hr, ho, hgr, _⟩ := run_append_own w 0 t ty e i z i.size i.bytes ht hi hz rfl rfl hzs hsz _ 0 [] hown a m c news hl hnews h1 (by omega) (by simpa using hbytes) (Nat.zero_le _)
    have holds : ∀ j u, ([] : List Value)[j]? = some u → w.cell? ((⟨g, 0, none⟩ : Addr).add j) = some u := fun j u h => by simp at h
    have hr2 := run_append_grow (P := P) w t ty e i z ht hi hz ⟨g, 0, none⟩ 0 0 [] (by simp) holds a m c news hl hnews (by omega) (by simp only [maxLen] at h63; omega) (growslice_fits (by omega) (by simpa using hbytes))
    rw [hr] at hr2
    injection hr2 with e1 e2
    subst e2
    refine ⟨_, _, hr, by simpa using ho, gbA (gbD (gbR _ _)) _, fun g' hg' => .inr ⟨?_, h0⟩⟩
    subst e1
    simp [Value.ownBlock] at hg'
    omega
variable {ops : Array Oper} {rest : List Oper} {o : Oper} {a : Act} {Q : Exit → Act → World → Prop}
theorem wp_appendF (wr : World) {t e : TypeId} {z : Value} {size bytes : Nat} (E : El P t e z size bytes) (hgd : o.guard = none) (s x : Operand)
    (ho : o.op = .call { callee := .builtin .append, args := #[s, x], argTypes := #[t, t] })
    (g : Nat) (hown : wr.ownsRow 0 e size (.slice (some ⟨g, 0, none⟩) 0 0) 0 []) (hs : a.eval s = .slice (some ⟨g, 0, none⟩) 0 0) (A : Option Addr) (m c : Nat) (ys : List Value) (hx : a.eval x = .slice A m c) (hr : Rd wr size A m ys) (h1 : ∀ u ∈ ys, u.oneCell' = true)
    (hn : m ≤ maxLen) (hb : m * bytes ≤ 140737488355328)
    (h : ∀ v' w', w'.ownsRow 0 e size v' m ys → wr.grownBy w' none → (∀ g', v'.ownBlock = some g' → g' = g ∨ (wr.heap.size ≤ g' ∧ 0 < m)) → wpList P ops Q rest (a.put o.dst v') w') :
    wpList P ops Q (o :: rest) a wr := by
  obtain ⟨i, hi, hz0, hz1, hz2⟩ := info_parts E.hi
  have key : ∀ ad : Addr, A = some ad → (∀ j u, ys[j]? = some u → wr.cell? (ad.add j) = some u) → wpList P ops Q (o :: rest) a wr := fun ad hA hc => by
    obtain ⟨v', w', hr, h2, h3, h4⟩ := run_append_empty2 (P := P) wr t o.type e i z size bytes E.ht hi hz0 hz1 hz2 E.hz E.hs g hown ad m c ys hr.1 hc h1 hn hb
    refine wpList_plain hgd fun _ hK => ?_
    unfold Oper.wp execOp
    simp only [ho, resolve, invoke, builtin, Sem.run_bind, Sem.run_pure, Result.andThen_ok, List.map_toArray, List.map_cons, List.map_nil, hs, hx, hA, hr]
    exact hK _ _ (h v' w' h2 h3 h4)
  rcases Nat.eq_zero_or_pos m with h0 | h0
  · subst h0
    have hys : ys = [] := List.eq_nil_of_length_eq_zero (by simpa using hr.1)
    subst hys
    cases A with
    | some ad => exact key ad rfl fun j u hu => by simp at hu
    | none =>
      refine wpList_plain hgd fun _ hK => ?_
      have hrun := run_append_of_nil (P := P) wr 0 t o.type e i size E.ht hi _ 0 [] hown c
      unfold Oper.wp execOp
      simp only [ho, resolve, invoke, builtin, Sem.run_bind, Sem.run_pure, Result.andThen_ok, List.map_toArray, List.map_cons, List.map_nil, hs, hx, hrun]
      exact hK _ _ (h _ wr hown (gbR _ _) fun g' hg => .inl (by simp [Value.ownBlock] at hg; exact hg.symm))
  · obtain ⟨b, off, hA, hb', hc⟩ := hr.2 h0
    refine key ⟨b, off, none⟩ hA fun j u hu => ?_
    have hadd : (⟨b, off, none⟩ : Addr).add j = ⟨b, off + j, none⟩ := by unfold Addr.add; split <;> simp_all
    have hj : j < m * size := by rw [← hr.1]; exact (List.getElem?_eq_some_iff.1 hu).1
    rw [hadd, hc j hj, hu]
end
end Go.Proofs.Ythdfkiaoahpjpaa
/-
  A circuit that is being built: its block, one gate more (reference and program).
-/
namespace Go.Proofs.Ythdfkiaoahpjpaa
open Go.RowKit
set_option linter.unusedVariables false
set_option linter.unusedSimpArgs false
def GBT (T : TypeId) (lo : Nat) (w : World) (y : Nat) : Prop := lo ≤ y ∧ ∀ cur e z, w.heap[y]? = some (.cells cur e z) → e = T ∨ e = 41
theorem GBT.trans {T : TypeId} {lo : Nat} {a b c : World} (h : Chg (GBT T lo a) a b) (k : Chg (GBT T lo b) b c) : Chg (GBT T lo a) a c := by
  refine h.join k fun i hi => ?_
  rcases Nat.lt_or_ge i a.heap.size with h1 | h1
  · left
    by_cases h2 : GBT T lo a i
    · exact h2
    · refine ⟨hi.1, fun cur e z hc => hi.2 cur e z ?_⟩
      rw [h.block i h1 h2]
      exact hc
  · exact .inr h1
theorem GBT.grow {T : TypeId} {lo : Nat} {a b : World} (h : a.grownBy b none) : Chg (GBT T lo a) a b := Chg.of h (by simp)
theorem GBT.own {T : TypeId} {lo : Nat} {a b : World} (k : Chg (GBT T lo a) a b) (hT : T ≠ 3) {xs : List Int} {F : List Nat} {v : Value} (h : (cints xs).own a F v) : (cints xs).own b F v := by
  refine own_chgK _ h k fun g hg hs => ?_
  obtain ⟨cur, e, z, hc, he⟩ := (tyd_plst (Ts := [3]) (by simp)) a F v h g hg
  have he : e = 3 := by simpa using he
  rcases hs.2 cur e z hc with h1 | h1
  · exact hT (h1.symm.trans he)
  · rw [he] at h1
    exact absurd h1 (by decide)
theorem GBT.ownF {T : TypeId} {lo l2 : Nat} {a b : World} (k : Chg (GBT T lo a) a b) (hT : T ≠ 3) {xs : List Int} {v : Value} (h : ownF l2 (cints xs) v a) : ownF l2 (cints xs) v b := by
  obtain ⟨F, h1, h2⟩ := h
  exact ⟨F, GBT.own k hT h1, h2⟩
def BS (T : TypeId) (lo hi : Nat) (m : CM) (g : Nat) (w : World) : Prop := lo ≤ g ∧ g < hi ∧ ∃ u0 u1 F0 F1, Blk w g T #[u0, u1] ∧ (cgates m.gt).own w F0 u0 ∧ (cints m.outs).own w F1 u1 ∧ (∀ x ∈ F0, lo ≤ x) ∧ ∀ x ∈ F1, lo ≤ x ∧ x < hi
theorem BS.grow {T : TypeId} {lo hi g : Nat} {m : CM} {w w' : World} (h : BS T lo hi m g w) (k : w.grownBy w' none) : BS T lo hi m g w' := by
  obtain ⟨h1, h2, u0, u1, F0, F1, hb, o0, o1, l0, l1⟩ := h
  exact ⟨h1, h2, u0, u1, F0, F1, hb.grow k, own_growK _ o0 k, own_growK _ o1 k, l0, l1⟩
theorem BS.chg {T : TypeId} {lo hi g : Nat} {m : CM} {w w' : World} {S : Nat → Prop} (h : BS T lo hi m g w) (k : Chg S w w') (hS : ∀ y, S y → hi ≤ y ∧ ∃ U us, Blk w y U us ∧ U ≠ 41) : BS T lo hi m g w' := by
  obtain ⟨h1, h2, u0, u1, F0, F1, hb, o0, o1, l0, l1⟩ := h
  refine ⟨h1, h2, u0, u1, F0, F1, hb.chg k (fun hs => by have := (hS g hs).1; omega), own_chgK _ o0 k (fun x hx hs => ?_), own_chgK _ o1 k (fun x hx hs => by have := (hS x hs).1; have := (l1 x hx).2; omega), l0, l1⟩
  obtain ⟨_, U, us, B, hU⟩ := hS x hs
  exact own_ty (Ts := [41]) (tyd_plst (by simp)) o0 B (by simpa using hU) hx
def Bld (T : TypeId) (lo hi : Nat) (m : CM) (g : Nat) (w w' : World) : Prop := BS T lo hi m g w' ∧ Chg (GBT T lo w) w w'
theorem Bld.trans {T : TypeId} {lo hi g : Nat} {m m' : CM} {a b c : World} (h : Bld T lo hi m g a b) (k : Bld T lo hi m' g b c) : Bld T lo hi m' g a c := ⟨k.1, GBT.trans h.2 k.2⟩
theorem Bld.grow {T : TypeId} {lo hi g : Nat} {m : CM} {a b c : World} (h : Bld T lo hi m g a b) (k : b.grownBy c none) : Bld T lo hi m g a c := ⟨h.1.grow k, GBT.trans h.2 (GBT.grow k)⟩
def CM.put (m : CM) (k x y : Int) : CM := { m with gt := m.gt ++ [(k, x, y)] }
end Go.Proofs.Ythdfkiaoahpjpaa
/-
  A region that draws its order and holds calls that build a circuit: the blocks that they touch.
-/
namespace Go.Proofs.Ythdfkiaoahpjpaa
open Go.RowKit
set_option linter.unusedVariables false
set_option linter.unusedSimpArgs false
end Go.Proofs.Ythdfkiaoahpjpaa
/-
  The laws' helpers on slices of numbers that are a little longer than the greatest size (printed from XTabK).
-/
namespace Go.Proofs.Ythdfkiaoahpjpaa
open Go.RowKit
set_option linter.unusedVariables false
set_option linter.unusedSimpArgs false
end Go.Proofs.Ythdfkiaoahpjpaa
/-
  The program's builder: adder, nots, sum.
-/
namespace Go.Proofs.Ythdfkiaoahpjpaa
open Go.RowKit
set_option linter.unusedVariables false
set_option linter.unusedSimpArgs false
def SRV (T : TypeId) (lo : Nat) (w : World) (A : Option Addr) (n : Nat) (xs : List Int) : Prop := ∀ w', Chg (GBT T lo w) w w' → Ints w' A n xs
theorem SRV.next {T : TypeId} {lo : Nat} {w w' : World} {A : Option Addr} {n : Nat} {xs : List Int} (h : SRV T lo w A n xs) (k : Chg (GBT T lo w) w w') : SRV T lo w' A n xs := fun w2 h2 => h w2 (GBT.trans k h2)
theorem SRV.grow {T : TypeId} {lo : Nat} {w w' : World} {A : Option Addr} {n : Nat} {xs : List Int} (h : SRV T lo w A n xs) (k : w.grownBy w' none) : SRV T lo w' A n xs := h.next (GBT.grow k)
theorem SRV.own {T : TypeId} {lo l2 : Nat} {w : World} {A : Option Addr} {n c : Nat} {xs : List Int} (h : ownF l2 (cints xs) (.slice A n c) w) (hT : T ≠ 3) : SRV T lo w A n xs := fun w' k => by
  obtain ⟨F, h1, _⟩ := GBT.ownF k hT h
  obtain ⟨A', c', e, _, _, hI⟩ := cints_rd ((cints xs).toRd h1)
  injection e with e1 e2 _
  subst e1; subst e2
  exact hI
end Go.Proofs.Ythdfkiaoahpjpaa
/-
  Costs: the walks of CostWithin and AddCosts, in the reference and in the program, and of the two laws.
-/
namespace Go.Proofs.Ythdfkiaoahpjpaa
open Go.RowKit
set_option linter.unusedVariables false
set_option linter.unusedSimpArgs false
end Go.Proofs.Ythdfkiaoahpjpaa
