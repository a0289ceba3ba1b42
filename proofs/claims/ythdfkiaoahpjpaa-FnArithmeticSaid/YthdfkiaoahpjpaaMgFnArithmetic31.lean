/-
  append onto a new empty row ('append([]T{}, x...)'): nothing old changes.
-/
import Derived.Test.YthdfkiaoahpjpaaMgFnArithmetic13
namespace Go.Proofs.Ythdfkiaoahpjpaa
open Go.RowKit
set_option linter.unusedVariables false
set_option linter.unusedSimpArgs false
section
variable {P : Program}
theorem run_append_empty (w : World) (t ty e : TypeId) (i : TypeInfo) (z : Value) (size bytes : Nat) (ht : P.underlying t = some (.slice e)) (hi : P.info? e = some i) (hz : i.zero = some z)
    (hsize : i.size = size) (hby : i.bytes = bytes) (hzs : z.cells.size = size) (hsz : 0 < size)
    (g : Nat) (hown : w.ownsRow 0 e size (.slice (some ⟨g, 0, none⟩) 0 0) 0 [])
    (a : Addr) (m c : Nat) (news : List Value) (hl : news.length = m * size) (hnews : ∀ j u, news[j]? = some u → w.cell? (a.add j) = some u) (h1 : ∀ u ∈ news, u.oneCell' = true)
    (h63 : m ≤ maxLen) (hbytes : m * bytes ≤ 140737488355328) :
    ∃ v' w', (Builtin.append_ #[t, t] ty #[.slice (some ⟨g, 0, none⟩) 0 0, .slice (some a) m c]).run P w = .ok v' w' ∧ w'.ownsRow 0 e size v' m news ∧ w.grownBy w' none ∧ (∀ g', v'.ownBlock = some g' → g' = g ∨ w.heap.size ≤ g') := by
  subst hsize
  subst hby
  rcases Nat.eq_zero_or_pos m with h0 | h0
  · subst h0
    obtain rfl : news = [] := List.eq_nil_of_length_eq_zero (by simpa using hl)
    have hr := run_append_room_cells (P := P) (w := w) t ty e i ht hi g 0 0 0 a 0 c [] (by simp) (by simp) (by simp) (by simp) (by simp) (by simp)
    refine ⟨_, _, hr, ?_, ?_, ?_⟩
    · exact hown
    · exact gbR _ _
    · intro g' hg'
      simp [Value.ownBlock] at hg'
      exact .inl hg'.symm
  · obtain ⟨v', w', hr, ho, hgr, _⟩ := run_append_own w 0 t ty e i z i.size i.bytes ht hi hz rfl rfl hzs hsz _ 0 [] hown a m c news hl hnews h1 (by omega) (by simpa using hbytes) (Nat.zero_le _)
    have holds : ∀ j u, ([] : List Value)[j]? = some u → w.cell? ((⟨g, 0, none⟩ : Addr).add j) = some u := fun j u h => by simp at h
    have hr2 := run_append_grow (P := P) w t ty e i z ht hi hz ⟨g, 0, none⟩ 0 0 [] (by simp) holds a m c news hl hnews (by omega) (by simp only [maxLen] at h63; omega) (growslice_fits (by omega) (by simpa using hbytes))
    rw [hr] at hr2
    injection hr2 with e1 e2
    subst e2
    refine ⟨_, _, hr, by simpa using ho, gbA (gbD (gbR _ _)) _, fun g' hg' => .inr ?_⟩
    subst e1
    simp [Value.ownBlock] at hg'
    omega
variable {ops : Array Oper} {rest : List Oper} {o : Oper} {a : Act} {Q : Exit → Act → World → Prop}
theorem wp_appendE (wr : World) {t e : TypeId} {z : Value} {size bytes : Nat} (E : El P t e z size bytes) (hgd : o.guard = none) (s x : Operand)
    (ho : o.op = .call { callee := .builtin .append, args := #[s, x], argTypes := #[t, t] })
    (g : Nat) (hown : wr.ownsRow 0 e size (.slice (some ⟨g, 0, none⟩) 0 0) 0 []) (hs : a.eval s = .slice (some ⟨g, 0, none⟩) 0 0) (A : Option Addr) (m c : Nat) (ys : List Value) (hx : a.eval x = .slice A m c) (hr : Rd wr size A m ys) (h1 : ∀ u ∈ ys, u.oneCell' = true)
    (hn : m ≤ maxLen) (hb : m * bytes ≤ 140737488355328)
    (h : ∀ v' w', w'.ownsRow 0 e size v' m ys → wr.grownBy w' none → (∀ g', v'.ownBlock = some g' → g' = g ∨ wr.heap.size ≤ g') → wpList P ops Q rest (a.put o.dst v') w') :
    wpList P ops Q (o :: rest) a wr := by
  obtain ⟨i, hi, hz0, hz1, hz2⟩ := info_parts E.hi
  have key : ∀ ad : Addr, A = some ad → (∀ j u, ys[j]? = some u → wr.cell? (ad.add j) = some u) → wpList P ops Q (o :: rest) a wr := fun ad hA hc => by
    obtain ⟨v', w', hr, h2, h3, h4⟩ := run_append_empty (P := P) wr t o.type e i z size bytes E.ht hi hz0 hz1 hz2 E.hz E.hs g hown ad m c ys hr.1 hc h1 hn hb
    refine wpList_plain hgd fun _ hK => ?_
    unfold Oper.wp execOp
    simp only [ho, resolve, invoke, builtin, Sem.run_bind, Sem.run_pure, Result.andThen_ok, List.map_toArray, List.map_cons, List.map_nil, hs, hx, hA, hr]
    exact hK _ _ (h v' w' h2 h3 h4)
  rcases Nat.eq_zero_or_pos m with h0 | h0
  · subst h0
    have hys : ys = [] := List.eq_nil_of_length_eq_zero (by simpa using hr.1)
    subst hys
    cases A with
    | some ad => exact key ad rfl fun j u hu => by simp at hu
    | none =>
      refine wpList_plain hgd fun _ hK => ?_
      have hrun := run_append_of_nil (P := P) wr 0 t o.type e i size E.ht hi _ 0 [] hown c
      unfold Oper.wp execOp
      simp only [ho, resolve, invoke, builtin, Sem.run_bind, Sem.run_pure, Result.andThen_ok, List.map_toArray, List.map_cons, List.map_nil, hs, hx, hrun]
      exact hK _ _ (h _ wr hown (gbR _ _) fun g' hg => .inl (by simp [Value.ownBlock] at hg; exact hg.symm))
  · obtain ⟨b, off, hA, hb', hc⟩ := hr.2 h0
    refine key ⟨b, off, none⟩ hA fun j u hu => ?_
    have hadd : (⟨b, off, none⟩ : Addr).add j = ⟨b, off + j, none⟩ := by unfold Addr.add; split <;> simp_all
    have hj : j < m * size := by rw [← hr.1]; exact (List.getElem?_eq_some_iff.1 hu).1
    rw [hadd, hc j hj, hu]
end
end Go.Proofs.Ythdfkiaoahpjpaa
