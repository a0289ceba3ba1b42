/-
  The program's circuits for words: the call's head and end; sums and differences.
-/
import Derived.Test.YthdfkiaoahpjpaaMgFnComparisons36
namespace Go.Proofs.Ythdfkiaoahpjpaa
open Go.RowKit
set_option linter.unusedVariables false
set_option linter.unusedSimpArgs false
theorem mat_two {w : World} {g n c m d : Nat} {A B : Option Addr} {x y : List Int} {t : TypeId} (hB : Blk w g t #[.slice A n c, .slice B m d]) (hg : g < w.heap.size) (hx : Ints w A n x) (hc : n ≤ c) (hc2 : c ≤ maxLen) (hy : Ints w B m y) (hd : m ≤ d) (hd2 : d ≤ maxLen) : Mat w (some ⟨g, 0, none⟩) 2 [x, y] := by
  refine ⟨[.slice A n c, .slice B m d], rfl, fun i cd v hcd hv => ?_, rfl, fun _ => ⟨g, 0, rfl, hg, fun j hj => ?_⟩⟩
  · have lx := hx.len
    have ly := hy.len
    subst lx; subst ly
    rcases i with _ | _ | i
    · simp only [List.map_cons, List.getElem?_cons_zero, Option.some.injEq] at hcd hv
      subst hcd; subst hv
      exact ⟨A, c, rfl, hc, hc2, hx⟩
    · simp only [List.map_cons, List.getElem?_cons_zero, List.getElem?_cons_succ, Option.some.injEq] at hcd hv
      subst hcd; subst hv
      exact ⟨B, d, rfl, hd, hd2, hy⟩
    · simp at hcd
  · have := hB.cell j
    simpa using this
theorem BS.made {T : TypeId} {lo : Nat} {m : CM} {u0 u1 : Value} {w : World} (h : aggF lo (ccircuit m) (.agg #[u0, u1]) w) (hlo : lo ≤ w.heap.size) : BS T lo (w.heap.size + 1) m w.heap.size (w.alloc (.cells #[u0, u1] T)) := by
  obtain ⟨F, hF, hl⟩ := h
  obtain ⟨v0, v1, F0, F1, e, rfl, o0, o1, _⟩ := ccircuit_oopen hF
  injection e with e
  injection e with e
  injection e with e0 e
  injection e with e1 _
  subst e0; subst e1
  have gA := gbA (gbR w none) (.cells #[u0, u1] T)
  exact ⟨hlo, by omega, u0, u1, F0, F1, Blk.new w _ _, own_growK _ o0 gA, own_growK _ o1 gA, fun x hx => hl x (by simp [hx]), fun x hx => ⟨hl x (by simp [hx]), by have := CS.lt _ o1 x hx; omega⟩⟩
theorem Blk.gbt {T U : TypeId} {lo y : Nat} {a b : World} {us : Array Value} (h : Blk a y U us) (k : Chg (GBT T lo a) a b) (h1 : U ≠ T) (h2 : U ≠ 41) : Blk b y U us := h.chg k fun hs => by
  unfold Blk at h
  rcases hs.2 _ _ _ h with e | e
  · exact h1 e
  · exact h2 e
theorem BS.fin {hi g r : Nat} {M : CM} {w0 wE : World} {a0 a1 : Value} (b : BS 77 w0.heap.size hi M g wE) (k : w0.grownBy wE none) (R : Blk wE r 28 #[a0, a1]) (hr : w0.heap.size ≤ r) :
    ∃ A n c B n' c', Blk wE g 77 #[.slice A n c, .slice B n' c'] ∧ Blk (setCells wE r 0 [.slice A n c, .slice B n' c']) r 28 #[.slice A n c, .slice B n' c'] ∧ aggF w0.heap.size (ccircuit M) (.agg #[.slice A n c, .slice B n' c']) (setCells wE r 0 [.slice A n c, .slice B n' c']) ∧ w0.grownBy (setCells wE r 0 [.slice A n c, .slice B n' c']) none ∧
      ∀ l2 xs v, ownF l2 (cints xs) v wE → ownF l2 (cints xs) v (setCells wE r 0 [.slice A n c, .slice B n' c']) := by
  obtain ⟨_, _, u0, u1, F0, F1, hb, o0, o1, l0, l1⟩ := b
  obtain ⟨A, n, c, rfl⟩ := row_form o0
  obtain ⟨B, n', c', rfl⟩ := row_form o1
  have hC := chg_setCells r [.slice A n c, .slice B n' c'] 0 wE
  refine ⟨A, n, c, B, n', c', hb, blk_setCells R [.slice A n c, .slice B n' c'] rfl, ⟨_, ccircuit_omk (own_chgK _ o0 hC fun y hy e => ?_) (own_chgK _ o1 hC fun y hy e => ?_) (fun y h0 h1 => ?_), fun y hy => ?_⟩, gb_chg k hC hr, fun l2 xs v ⟨F, h1, h2⟩ => ⟨F, own_chgK _ h1 hC fun y hy e => ?_, h2⟩⟩
  · rw [e] at hy
    exact own_ty (Ts := [41]) (tyd_plst (by simp)) o0 R (by decide) hy
  · rw [e] at hy
    exact own_ty (Ts := [3]) (tyd_plst (by simp)) o1 R (by decide) hy
  · obtain ⟨cur, e, z, hc, he⟩ := (tyd_plst (Ts := [41]) (by simp)) wE F0 _ o0 y h0
    obtain ⟨cur2, e2, z2, hc2, he2⟩ := (tyd_plst (Ts := [3]) (by simp)) wE F1 _ o1 y h1
    rw [hc] at hc2
    injection hc2 with hc2
    injection hc2 with _ h3 _
    have he : e = 41 := by simpa using he
    have he2 : e2 = 3 := by simpa using he2
    rw [← h3, he] at he2
    exact absurd he2 (by decide)
  · simp only [List.flatten_cons, List.flatten_nil, List.append_nil, List.mem_append] at hy
    rcases hy with hy | hy
    · exact l0 y hy
    · exact (l1 y hy).1
  · rw [e] at hy
    exact own_ty (Ts := [3]) (tyd_plst (by simp)) h1 R (by decide) hy
structure WAsk (m : CM) : Prop where
  ok : COk m
  few : m.gt.length ≤ 5900
  outs : m.outs.length ≤ 1000000
def wordB (m : CM) (r : List Int) : Prop := r.length = 4 ∧ ∀ z ∈ r, inB z 0 (m.gt.length - 1) = true
end Go.Proofs.Ythdfkiaoahpjpaa
