/-
  Lists of lists of numbers: the laws' helpers toIntSS, eqIntSS, markIntSS, szIntSS.
-/
import Derived.Test.YthdfkiaoahpjpaaMgFnConstantCircuits17
namespace Go.Proofs.Ythdfkiaoahpjpaa
open Go.RowKit
set_option linter.unusedVariables false
set_option linter.unusedSimpArgs false
abbrev Mat (w : World) (A : Option Addr) (n : Nat) (rows : List (List Int)) : Prop := RdC w 1 A n (rows.map ir)
end Go.Proofs.Ythdfkiaoahpjpaa
/-
  Lists of lists of numbers of the call's own: a row is pushed.
-/
namespace Go.Proofs.Ythdfkiaoahpjpaa
open Go.RowKit
set_option linter.unusedVariables false
set_option linter.unusedSimpArgs false
abbrev cintss (rows : List (List Int)) : CS := lst 24 1 (fun r => [cints r]) rows
theorem cintss_flat (rows : List (List Int)) : rows.flatMap (fun r => [cints r]) = rows.map cints := flat_one _ rows
theorem cintss_mat {w : World} {rows : List (List Int)} {v : Value} (h : (cintss rows).rd w v) : ∃ A c, v = .slice A rows.length c ∧ rows.length ≤ c ∧ c ≤ maxLen ∧ Mat w A rows.length rows := by
  obtain ⟨A, c, vs, h1, h2, h3, h4, h5⟩ := lst_rd (s := 1) (fun _ => rfl) (by omega) h
  refine ⟨A, c, h1, h2, h3, vs, by rw [h4.1, cintss_flat]; simp, fun i cd v hc hv => ?_, h5⟩
  rw [List.getElem?_map] at hc
  cases hr : rows[i]? with
  | none => rw [hr] at hc; cases hc
  | some r =>
    rw [hr] at hc
    injection hc with hc
    subst hc
    have := h4.2 i (cints r) v (by rw [cintss_flat, List.getElem?_map, hr]; rfl) hv
    obtain ⟨B, d, rfl, q1, q2, q3⟩ := cints_rd this
    exact ⟨B, d, rfl, q1, q2, q3⟩
def MO (H : Nat) (w : World) (s : Value) (rows : List (List Int)) : Prop := ∃ F, (cintss rows).own w F s ∧ ∀ x ∈ F, H ≤ x
section
variable {H : Nat} {w w' : World} {s : Value} {rows : List (List Int)}
theorem MO.grow (h : MO H w s rows) (hg : w.grownBy w' none) : MO H w' s rows := by
  obtain ⟨F, h1, h2⟩ := h
  exact ⟨F, own_growK _ h1 hg, h2⟩
theorem MO.mat (h : MO H w s rows) : ∃ A c, s = .slice A rows.length c ∧ rows.length ≤ c ∧ c ≤ maxLen ∧ Mat w A rows.length rows := by
  obtain ⟨F, h1, h2⟩ := h
  exact cintss_mat (CS.toRd _ h1)
theorem MO.form (h : MO H w s rows) : ∃ A c, s = .slice A rows.length c := by
  obtain ⟨A, c, h1, _⟩ := h.mat
  exact ⟨A, c, h1⟩
theorem MO.nil (h : w.ownsRow H 24 1 s 0 []) : MO H w s [] := by
  refine ⟨s.ownBlock.toList, ⟨0, [], [], rfl, own_base h (Nat.zero_le _), OwnAll.nil _, by simp, by cases s.ownBlock <;> simp⟩, fun x hx => ?_⟩
  exact (h.lt x (by simpa using hx)).1
theorem MO.push (h : MO H w s rows) (hH : H ≤ w.heap.size) (hg : w.grownBy w' none) {r : List Int} {u : Value} {Fr : List Nat} (hu : (cints r).own w' Fr u) (hd : ∀ x ∈ Fr, w.heap.size ≤ x) :
    ∃ vs, w'.ownsRow H 24 1 s rows.length vs ∧ ∀ (w2 : World) (v2 : Value), w2.ownsRow H 24 1 v2 (rows.length + 1) (vs ++ [u]) → w'.grownBy w2 s.ownBlock → (∀ g, v2.ownBlock = some g → some g = s.ownBlock ∨ w'.heap.size ≤ g) → MO H w2 v2 (rows ++ [r]) := by
  obtain ⟨F, h1, h2⟩ := h
  have hF : ∀ x ∈ F, x < w.heap.size := CS.lt _ h1
  have h1' := own_growK _ h1 hg
  obtain ⟨n, vs, hl, hown, hob, hpush⟩ := row_push h1'
  have hn : rows.length = n := by rw [cintss_flat] at hl; simpa using hl
  subst hn
  refine ⟨vs, own_rebase hown fun g hg' => h2 g (hob g hg'), fun w2 v2 ho2 hg2 hv2 => ?_⟩
  have hFr : ∀ x ∈ Fr, x < w'.heap.size := CS.lt _ hu
  have hu2 : (cints r).own w2 Fr u := CS.kept _ hu fun g hg' => hg2.block g (hFr g hg') (fun e => by
    have h5 := hF g (hob g e.symm)
    have h6 := hd g hg'
    omega)
  obtain ⟨F', hF', hs⟩ := hpush w2 v2 1 [u] [cints r] [Fr] rfl (own_base ho2 (Nat.zero_le _)) hg2 hv2 (OwnAll.cons hu2 (OwnAll.nil _) (fun g hg' => by simp))
    (fun x hx hx' => by
      have h5 := hF x hx'
      have h6 := hd x (by simpa using hx)
      omega)
    (fun g hg' hx => by
      have hx : g ∈ Fr := by simpa using hx
      rcases hv2 g hg' with h5 | h5
      · have := hF g (hob g h5.symm); have := hd g hx; omega
      · have := hFr g hx; omega)
  refine ⟨F', ?_, fun x hx => ?_⟩
  · have e : (rows ++ [r]).flatMap (fun r => [cints r]) = rows.flatMap (fun r => [cints r]) ++ [cints r] := by simp
    show (row 24 1 ((rows ++ [r]).flatMap fun r => [cints r])).own w2 F' v2
    rw [e]
    exact hF'
  · rcases hs x hx with h5 | h5 | h5
    · exact h2 x h5
    · have := hg.size; omega
    · have := hd x (by simpa using h5); omega
end
end Go.Proofs.Ythdfkiaoahpjpaa
/-
  append onto a new empty row ('append([]T{}, x...)'): nothing old changes.
-/
namespace Go.Proofs.Ythdfkiaoahpjpaa
open Go.RowKit
set_option linter.unusedVariables false
set_option linter.unusedSimpArgs false
section
variable {P : Program}
theorem run_append_empty (w : World) (t ty e : TypeId) (i : TypeInfo) (z : Value) (size bytes : Nat) (ht : P.underlying t = some (.slice e)) (hi : P.info? e = some i) (hz : i.zero = some z)
    (hsize : i.size = size) (hby : i.bytes = bytes) (hzs : z.cells.size = size) (hsz : 0 < size)
    (g : Nat) (hown : w.ownsRow 0 e size (.slice (some ⟨g, 0, none⟩) 0 0) 0 [])
    (a : Addr) (m c : Nat) (news : List Value) (hl : news.length = m * size) (hnews : ∀ j u, news[j]? = some u → w.cell? (a.add j) = some u) (h1 : ∀ u ∈ news, u.oneCell' = true)
    (h63 : m ≤ maxLen) (hbytes : m * bytes ≤ 140737488355328) :
    ∃ v' w', (Builtin.append_ #[t, t] ty #[.slice (some ⟨g, 0, none⟩) 0 0, .slice (some a) m c]).run P w = .ok v' w' ∧ w'.ownsRow 0 e size v' m news ∧ w.grownBy w' none ∧ (∀ g', v'.ownBlock = some g' → g' = g ∨ w.heap.size ≤ g') := by
  subst hsize
  subst hby
  rcases Nat.eq_zero_or_pos m with h0 | h0
  · subst h0
    obtain rfl : news = [] := List.eq_nil_of_length_eq_zero (by simpa using hl)
    have hr := run_append_room_cells (P := P) (w := w) t ty e i ht hi g 0 0 0 a 0 c [] (by simp) (by simp) (by simp) (by simp) (by simp) (by simp)
    refine ⟨_, _, hr, ?_, ?_, ?_⟩
    · exact hown
    · exact gbR _ _
    · intro g' hg'
      simp [Value.ownBlock] at hg'
      exact .inl hg'.symm
  · obtain ⟨v', w', hr, ho, hgr, _⟩ := run_append_own w 0 t ty e i z i.size i.bytes ht hi hz rfl rfl hzs hsz _ 0 [] hown a m c news hl hnews h1 (by omega) (by simpa using hbytes) (Nat.zero_le _)
    have holds : ∀ j u, ([] : List Value)[j]? = some u → w.cell? ((⟨g, 0, none⟩ : Addr).add j) = some u := fun j u h => by simp at h
    have hr2 := run_append_grow (P := P) w t ty e i z ht hi hz ⟨g, 0, none⟩ 0 0 [] (by simp) holds a m c news hl hnews (by omega) (by simp only [maxLen] at h63; omega) (growslice_fits (by omega) (by simpa using hbytes))
    rw [hr] at hr2
    injection hr2 with e1 e2
    subst e2
    refine ⟨_, _, hr, by simpa using ho, gbA (gbD (gbR _ _)) _, fun g' hg' => .inr ?_⟩
    subst e1
    simp [Value.ownBlock] at hg'
    omega
variable {ops : Array Oper} {rest : List Oper} {o : Oper} {a : Act} {Q : Exit → Act → World → Prop}
theorem wp_appendE (wr : World) {t e : TypeId} {z : Value} {size bytes : Nat} (E : El P t e z size bytes) (hgd : o.guard = none) (s x : Operand)
    (ho : o.op = .call { callee := .builtin .append, args := #[s, x], argTypes := #[t, t] })
    (g : Nat) (hown : wr.ownsRow 0 e size (.slice (some ⟨g, 0, none⟩) 0 0) 0 []) (hs : a.eval s = .slice (some ⟨g, 0, none⟩) 0 0) (A : Option Addr) (m c : Nat) (ys : List Value) (hx : a.eval x = .slice A m c) (hr : Rd wr size A m ys) (h1 : ∀ u ∈ ys, u.oneCell' = true)
    (hn : m ≤ maxLen) (hb : m * bytes ≤ 140737488355328)
    (h : ∀ v' w', w'.ownsRow 0 e size v' m ys → wr.grownBy w' none → (∀ g', v'.ownBlock = some g' → g' = g ∨ wr.heap.size ≤ g') → wpList P ops Q rest (a.put o.dst v') w') :
    wpList P ops Q (o :: rest) a wr := by
  obtain ⟨i, hi, hz0, hz1, hz2⟩ := info_parts E.hi
  have key : ∀ ad : Addr, A = some ad → (∀ j u, ys[j]? = some u → wr.cell? (ad.add j) = some u) → wpList P ops Q (o :: rest) a wr := fun ad hA hc => by
    obtain ⟨v', w', hr, h2, h3, h4⟩ := run_append_empty (P := P) wr t o.type e i z size bytes E.ht hi hz0 hz1 hz2 E.hz E.hs g hown ad m c ys hr.1 hc h1 hn hb
    refine wpList_plain hgd fun _ hK => ?_
    unfold Oper.wp execOp
    simp only [ho, resolve, invoke, builtin, Sem.run_bind, Sem.run_pure, Result.andThen_ok, List.map_toArray, List.map_cons, List.map_nil, hs, hx, hA, hr]
    exact hK _ _ (h v' w' h2 h3 h4)
  rcases Nat.eq_zero_or_pos m with h0 | h0
  · subst h0
    have hys : ys = [] := List.eq_nil_of_length_eq_zero (by simpa using hr.1)
    subst hys
    cases A with
    | some ad => exact key ad rfl fun j u hu => by simp at hu
    | none =>
      refine wpList_plain hgd fun _ hK => ?_
      have hrun := run_append_of_nil (P := P) wr 0 t o.type e i size E.ht hi _ 0 [] hown c
      unfold Oper.wp execOp
      simp only [ho, resolve, invoke, builtin, Sem.run_bind, Sem.run_pure, Result.andThen_ok, List.map_toArray, List.map_cons, List.map_nil, hs, hx, hrun]
      exact hK _ _ (h _ wr hown (gbR _ _) fun g' hg => .inl (by simp [Value.ownBlock] at hg; exact hg.symm))
  · obtain ⟨b, off, hA, hb', hc⟩ := hr.2 h0
    refine key ⟨b, off, none⟩ hA fun j u hu => ?_
    have hadd : (⟨b, off, none⟩ : Addr).add j = ⟨b, off + j, none⟩ := by unfold Addr.add; split <;> simp_all
    have hj : j < m * size := by rw [← hr.1]; exact (List.getElem?_eq_some_iff.1 hu).1
    rw [hadd, hc j hj, hu]
end
end Go.Proofs.Ythdfkiaoahpjpaa
