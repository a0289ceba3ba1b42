/-
  FnExactCheckCopies: the law holds: for every input the call returns true and leaves its arguments as they were. No condition.
-/
import Derived.Test.YthdfkiaoahpjpaaMgFnExactCheckCopies46
namespace Go.Proofs.Ythdfkiaoahpjpaa.FnExactCheckCopies
open Go.ChangeShapes Go.WideShapes Go.ChangeAt Go.RowKit Go.Joins
set_option linter.unusedVariables false
set_option linter.unusedSimpArgs false
set_option maxRecDepth 100000 in
theorem lifted (os : Os) (started : os.Started) (H : Type) (enc : TypeId × Value → H) :
    ReturnsInHanded {} Try.checked os 7 .any (Rows.fnExactCheckCopiesSpec.pre6 enc Try.prog Try.f7 Rows.fnExactCheckCopiesRow.domain false) (Rows.fnExactCheckCopiesSpec.post enc Try.prog Try.f7 false true false false) := by
  refine returnsInHanded_of_change (C := Try.checked) own started (by kernel_rfl) Try.func7
    (ChangeSpec.witness6 (enc := enc) (C := Try.checked) false ⟨#[], #[.agg #[.slice none 0 0, .slice none 0 0], .slice none 0 0, .slice none 0 0, .slice none 0 0], []⟩ 8 (by kernel_rfl) (by kernel_rfl) (by kernel_rfl) (by kernel_rfl)) ?_
  intro W base args ds gs before hval0 hW hcnd _
  have hval : ∀ (j : Nat) t v, Try.f7.params[j]? = some t → args[j]? = some v → Value.okWide Try.prog W .any base t v := hval0
  have hW' := hW
  obtain ⟨p, q, hA0, hV, rfl, hfz, hnd⟩ := hW
  have hA : DataW.TrodAll enc Try.prog W 0 (fun _ => true) true Try.f7.params.toList args.toList ds p := hA0
  rw [Try.params7] at hA hval
  obtain ⟨v0, vs0, d0, ds0, p0, q0, hargs, rfl, rfl, h0, r0⟩ := trodAll_cons hA
  obtain ⟨v1, vs1, d1, ds1, p1, q1, rfl, rfl, rfl, h1, r1⟩ := trodAll_cons r0
  obtain ⟨v2, vs2, d2, ds2, p2, q2, rfl, rfl, rfl, h2, r2⟩ := trodAll_cons r1
  obtain ⟨v3, vs3, d3, ds3, p3, q3, rfl, rfl, rfl, h3, r3⟩ := trodAll_cons r2
  obtain ⟨rfl, rfl, rfl⟩ := trodAll_nil r3
  obtain rfl : args = #[v0, v1, v2, v3] := by cases args; simp_all
  obtain ⟨rfl, rfl⟩ := trodVars_none hV
  have k0 := h0
  have lt0 : ∀ x ∈ p0, x.block < W.heap.size := by obtain ⟨m, hm⟩ := k0; exact DataW.trod_lt m _ _ _ hm
  obtain ⟨x0_0, x0_1, y0_0, y0_1, m0, rfl, rfl, rfl, e0_0, e0_1⟩ := open_agg2 Try.underlying44 (by kernel_rfl) (by kernel_rfl) (hval 0 44 v0 rfl rfl) h0
  obtain ⟨z0_0, r0_0', w0_0⟩ := kSt3 (E := 41) Try.underlying42 Try.underlying127 (by kernel_rfl) (by kernel_rfl) (by intro j f hf; rcases j with _ | _ | _ | j <;> simp at hf <;> subst hf <;> exact Try.underlying3) (by decide) e0_0
  obtain ⟨z0_1, r0_1', w0_1⟩ := kInts Try.underlying24 Try.underlying3 (by kernel_rfl) e0_1
  have k1 := h1
  have lt1 : ∀ x ∈ p1, x.block < W.heap.size := by obtain ⟨m, hm⟩ := k1; exact DataW.trod_lt m _ _ _ hm
  obtain ⟨A1, n1, c1, rfl⟩ := okWide_slice Try.underlying56 (hval 1 56 v1 rfl rfl)
  obtain ⟨zs1, r1'⟩ : ∃ xs : List PbM, (cpubs xs).rd W (.slice A1 n1 c1) := by
    obtain ⟨m, hm⟩ := h1
    exact kPubs Try.underlying56 Try.underlying109 (by kernel_rfl) (by kernel_rfl) Try.underlying24 Try.underlying24 Try.underlying24 Try.underlying3 (by kernel_rfl) hm
  have k2 := h2
  have lt2 : ∀ x ∈ p2, x.block < W.heap.size := by obtain ⟨m, hm⟩ := k2; exact DataW.trod_lt m _ _ _ hm
  obtain ⟨A2, n2, c2, rfl⟩ := okWide_slice Try.underlying24 (hval 2 24 v2 rfl rfl)
  obtain ⟨zs2, hz2, hm2, hc2⟩ : ∃ zs, IntsK .i64 W A2 n2 zs ∧ n2 ≤ c2 ∧ c2 ≤ maxLen := by
    obtain ⟨m, hm⟩ := h2
    obtain ⟨A, n, c, zs, he, h1, h2, h3⟩ := tSC Try.underlying24 Try.underlying3 (by kernel_rfl) hm
    injection he with e1 e2 e3; subst e1; subst e2; subst e3; exact ⟨zs, h1, h2, h3⟩
  have k3 := h3
  have lt3 : ∀ x ∈ p3, x.block < W.heap.size := by obtain ⟨m, hm⟩ := k3; exact DataW.trod_lt m _ _ _ hm
  obtain ⟨A3, n3, c3, rfl⟩ := okWide_slice Try.underlying57 (hval 3 57 v3 rfl rfl)
  obtain ⟨zs3, r3'⟩ : ∃ xs : List Bool, (cbools xs).rd W (.slice A3 n3 c3) := by
    obtain ⟨m, hm⟩ := h3
    exact kBools Try.underlying57 Try.underlying4 (by kernel_rfl) hm
  clear hA0 hval0
  refine (walk W (CM.mk z0_0 z0_1) _ (ccircuit_mk r0_0' r0_1') ⟨w0_0, w0_1⟩ zs1 _ r1' A2 n2 c2 zs2 hz2 hm2 hc2 zs3 _ r3').mono fun e W' ⟨he, hg⟩ => ?_
  subst he
  have bel := gbEnd hg
  exact ⟨_, rfl, _, _, _, [], _, [], hW', trodAll_mk1 (shut_bool Try.underlying4 _), (trodAll_cons_mk (Below.trod laidOut (by kernel_rfl) (of_decide_eq_true (by kernel_rfl)) k0 bel lt0) (trodAll_cons_mk (Below.trod laidOut (by kernel_rfl) (of_decide_eq_true (by kernel_rfl)) k1 bel lt1) (trodAll_cons_mk (Below.trod laidOut (by kernel_rfl) (of_decide_eq_true (by kernel_rfl)) k2 bel lt2) (trodAll_cons_mk (Below.trod laidOut (by kernel_rfl) (of_decide_eq_true (by kernel_rfl)) k3 bel lt3) trodAll_mk0)))), rfl, bel.frame _, fun h => by cases h⟩
set_option maxHeartbeats 4000000 in
theorem closed : joinedFacts Try.prog 7 Try.f7 Rows.fnExactCheckCopiesSpec Rows.fnExactCheckCopiesRow = true := by
  unfold joinedFacts
  repeat' (with_reducible refine andT ?_ ?_)
  all_goals first | (with_reducible exact mayEnter) | ((with_reducible refine lF ?_); rfl) | ((with_reducible refine mK ?_); rfl) | (as_aux_lemma => kernel_rfl)
theorem over : Rows.fnExactCheckCopiesRow.holds Try.pinned (OpenSpec.ofChange Rows.fnExactCheckCopiesSpec) :=
  OpenClaim.holds_of_wide 7 Try.f7 rfl rfl rfl rfl rfl rfl rfl ⟨rfl, rfl, rfl, rfl, rfl⟩ rfl rfl rfl rfl rfl (by as_aux_lemma => kernel_rfl) Try.func7 closed
    (of_decide_eq_true (by as_aux_lemma => kernel_rfl)) (by unfold Func.isWrapper; first | (rw [if_pos (by decide +kernel)]; kernel_rfl) | (rw [if_neg (by decide +kernel)]; exact ⟨rfl, rfl⟩))
    (fun os started H enc _ => lifted os started H enc)
theorem proved : Rows.FnExactCheckCopiesSaid := over
end Go.Proofs.Ythdfkiaoahpjpaa.FnExactCheckCopies
