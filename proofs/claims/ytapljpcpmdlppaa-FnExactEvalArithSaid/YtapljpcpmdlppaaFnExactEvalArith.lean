/-
  FnExactEvalArith: the law holds: for every input the call returns true and leaves its arguments as they were. No condition.
-/
import Derived.Test.YtapljpcpmdlppaaExEval
import Derived.Test.YtapljpcpmdlppaaOpenK
namespace Go.Proofs.Ytapljpcpmdlppaa.FnExactEvalArith
open Go.ChangeShapes Go.WideShapes Go.ChangeAt Go.RowKit Go.Joins
set_option linter.unusedVariables false
set_option maxRecDepth 100000 in
theorem lifted (os : Os) (started : os.Started) (H : Type) (enc : TypeId × Value → H) :
    ReturnsInHanded {} Try.checked os 12 .any (Rows.fnExactEvalArithSpec.pre6 enc Try.prog Try.f12 Rows.fnExactEvalArithRow.domain false) (Rows.fnExactEvalArithSpec.post enc Try.prog Try.f12 false true false false) := by
  refine returnsInHanded_of_change (C := Try.checked) own started (by kernel_rfl) Try.func12
    (ChangeSpec.witness6 (enc := enc) (C := Try.checked) false ⟨#[], #[.agg #[.int .i64 0, .slice none 0 0, .slice none 0 0], .slice none 0 0], []⟩ 8 (by kernel_rfl) (by kernel_rfl) (by kernel_rfl) (by kernel_rfl)) ?_
  intro W base args ds gs before hval0 hW hcnd _
  have hval : ∀ (j : Nat) t v, Try.f12.params[j]? = some t → args[j]? = some v → Value.okWide Try.prog W .any base t v := hval0
  have hW' := hW
  obtain ⟨p, q, hA0, hV, rfl, hfz, hnd⟩ := hW
  have hA : DataW.TrodAll enc Try.prog W 0 (fun _ => true) true Try.f12.params.toList args.toList ds p := hA0
  rw [Try.params12] at hA hval
  obtain ⟨v0, vs0, d0, ds0, p0, q0, hargs, rfl, rfl, h0, r0⟩ := trodAll_cons hA
  obtain ⟨v1, vs1, d1, ds1, p1, q1, rfl, rfl, rfl, h1, r1⟩ := trodAll_cons r0
  obtain ⟨rfl, rfl, rfl⟩ := trodAll_nil r1
  obtain rfl : args = #[v0, v1] := by cases args; simp_all
  obtain ⟨rfl, rfl⟩ := trodVars_none hV
  have k0 := h0
  have lt0 : ∀ x ∈ p0, x.block < W.heap.size := by obtain ⟨m, hm⟩ := k0; exact DataW.trod_lt m _ _ _ hm
  obtain ⟨x0_0, x0_1, x0_2, y0_0, y0_1, y0_2, m0, rfl, rfl, rfl, e0_0, e0_1, e0_2⟩ := open_agg3 Try.underlying25 (by kernel_rfl) (by kernel_rfl) (hval 0 25 v0 rfl rfl) h0
  obtain ⟨z0_0, rfl, w0_0⟩ := tI Try.underlying3 e0_0
  obtain ⟨z0_1, r0_1', w0_1⟩ := kSt3 (E := 39) Try.underlying22 Try.underlying158 (by kernel_rfl) (by kernel_rfl) (by intro j f hf; rcases j with _ | _ | _ | j <;> simp at hf <;> subst hf <;> exact Try.underlying3) (by decide) e0_1
  obtain ⟨z0_2, r0_2', w0_2⟩ := kInts Try.underlying23 Try.underlying3 (by kernel_rfl) e0_2
  have k1 := h1
  have lt1 : ∀ x ∈ p1, x.block < W.heap.size := by obtain ⟨m, hm⟩ := k1; exact DataW.trod_lt m _ _ _ hm
  obtain ⟨A1, n1, c1, rfl⟩ := okWide_slice Try.underlying23 (hval 1 23 v1 rfl rfl)
  obtain ⟨zs1, hz1, hm1, hc1⟩ : ∃ zs, IntsK .i64 W A1 n1 zs ∧ n1 ≤ c1 ∧ c1 ≤ maxLen := by
    obtain ⟨m, hm⟩ := h1
    obtain ⟨A, n, c, zs, he, h1, h2, h3⟩ := tSC Try.underlying23 Try.underlying3 (by kernel_rfl) hm
    injection he with e1 e2 e3; subst e1; subst e2; subst e3; exact ⟨zs, h1, h2, h3⟩
  clear hA0 hval0
  refine (walk W (AM.mk z0_0 z0_1 z0_2) _ (carith_mk r0_1' r0_2') ⟨wf_i64 w0_0, w0_1, w0_2⟩ A1 n1 c1 zs1 hz1 hm1 hc1).mono fun e W' ⟨he, hg⟩ => ?_
  subst he
  have bel := gbEnd hg
  exact ⟨_, rfl, _, _, _, [], _, [], hW', trodAll_mk1 (shut_bool Try.underlying4 _), (trodAll_cons_mk (Below.trod laidOut (by kernel_rfl) (of_decide_eq_true (by kernel_rfl)) k0 bel lt0) (trodAll_cons_mk (Below.trod laidOut (by kernel_rfl) (of_decide_eq_true (by kernel_rfl)) k1 bel lt1) trodAll_mk0)), rfl, bel.frame _, fun h => by cases h⟩

set_option maxHeartbeats 4000000 in
theorem closed : joinedFacts Try.prog 12 Try.f12 Rows.fnExactEvalArithSpec Rows.fnExactEvalArithRow = true := by
  unfold joinedFacts
  repeat' (with_reducible refine andT ?_ ?_)
  all_goals first | (with_reducible exact mayEnter) | ((with_reducible refine lF ?_); rfl) | ((with_reducible refine mK ?_); rfl) | (as_aux_lemma => kernel_rfl)
theorem over : Rows.fnExactEvalArithRow.holds Try.pinned (OpenSpec.ofChange Rows.fnExactEvalArithSpec) :=
  OpenClaim.holds_of_wide 12 Try.f12 rfl rfl rfl rfl rfl rfl rfl ⟨rfl, rfl, rfl, rfl, rfl⟩ rfl rfl rfl rfl rfl (by as_aux_lemma => kernel_rfl) Try.func12 closed
    (of_decide_eq_true (by as_aux_lemma => kernel_rfl)) (by unfold Func.isWrapper; first | (rw [if_pos (by decide +kernel)]; kernel_rfl) | (rw [if_neg (by decide +kernel)]; exact ⟨rfl, rfl⟩))
    (fun os started H enc _ => lifted os started H enc)

/-- The statement. -/
theorem proved : Rows.FnExactEvalArithSaid := over
end Go.Proofs.Ytapljpcpmdlppaa.FnExactEvalArith
