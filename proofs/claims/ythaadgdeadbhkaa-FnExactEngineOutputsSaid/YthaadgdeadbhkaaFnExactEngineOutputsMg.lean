/-
  FnExactEngineOutputs: the law holds: for every input the call returns true and leaves its arguments as they were. No condition.
-/
import Derived.Test.YthaadgdeadbhkaaMgFnExactEngineOutputs42
import Derived.Test.YthaadgdeadbhkaaMgFnExactEngineOutputs46
namespace Go.Proofs.Ythaadgdeadbhkaa.FnExactEngineOutputs
open Go.ChangeShapes Go.WideShapes Go.ChangeAt Go.RowKit Go.Joins
set_option linter.unusedVariables false
set_option linter.unusedSimpArgs false
set_option maxRecDepth 100000 in
theorem lifted (os : Os) (started : os.Started) (H : Type) (enc : TypeId × Value → H) :
    ReturnsInHanded {} Try.checked os 6 .any (Rows.fnExactEngineOutputsSpec.pre6 enc Try.prog Try.f6 Rows.fnExactEngineOutputsRow.domain false) (Rows.fnExactEngineOutputsSpec.post enc Try.prog Try.f6 false true false false) := by
  refine returnsInHanded_of_change (C := Try.checked) own started (by kernel_rfl) Try.func6
    (ChangeSpec.witness6 (enc := enc) (C := Try.checked) false ⟨#[], #[.agg #[.int .i64 0, .slice none 0 0, .int .i64 0, .slice none 0 0, .slice none 0 0, .slice none 0 0, .slice none 0 0, .int .i64 0, .bool false]], []⟩ 8 (by kernel_rfl) (by kernel_rfl) (by kernel_rfl) (by kernel_rfl)) ?_
  intro W base args ds gs before hval0 hW hcnd _
  have hval : ∀ (j : Nat) t v, Try.f6.params[j]? = some t → args[j]? = some v → Value.okWide Try.prog W .any base t v := hval0
  have hW' := hW
  obtain ⟨p, q, hA0, hV, rfl, hfz, hnd⟩ := hW
  have hA : DataW.TrodAll enc Try.prog W 0 (fun _ => true) true Try.f6.params.toList args.toList ds p := hA0
  rw [Try.params6] at hA hval
  obtain ⟨v0, vs0, d0, ds0, p0, q0, hargs, rfl, rfl, h0, r0⟩ := trodAll_cons hA
  obtain ⟨rfl, rfl, rfl⟩ := trodAll_nil r0
  obtain rfl : args = #[v0] := by cases args; simp_all
  obtain ⟨rfl, rfl⟩ := trodVars_none hV
  have k0 := h0
  have lt0 : ∀ x ∈ p0, x.block < W.heap.size := by obtain ⟨m, hm⟩ := k0; exact DataW.trod_lt m _ _ _ hm
  obtain ⟨x0_0, x0_1, x0_2, x0_3, x0_4, x0_5, x0_6, x0_7, x0_8, m0, y0_0, y0_1, y0_2, y0_3, y0_4, y0_5, y0_6, y0_7, y0_8, rfl, e0_0, e0_1, e0_2, e0_3, e0_4, e0_5, e0_6, e0_7, e0_8⟩ := open_eng Try.underlying64 Try.underlying58 Try.underlying61 (by kernel_rfl) (by kernel_rfl) (hval 0 64 v0 rfl rfl) h0
  obtain ⟨z0_0, rfl, w0_0⟩ := tI Try.underlying3 e0_0
  obtain ⟨z0_2, rfl, w0_2⟩ := tI Try.underlying3 e0_2
  obtain ⟨z0_7, rfl, w0_7⟩ := tI Try.underlying3 e0_7
  obtain ⟨z0_1, r0_1, w0_1⟩ := kInts Try.underlying24 Try.underlying3 (by kernel_rfl) e0_1
  obtain ⟨z0_4, r0_4, w0_4⟩ := kInts Try.underlying24 Try.underlying3 (by kernel_rfl) e0_4
  obtain ⟨z0_6, r0_6, w0_6⟩ := kInts Try.underlying24 Try.underlying3 (by kernel_rfl) e0_6
  obtain ⟨z0_3, r0_3, w0_3⟩ := kSt3 (E := 95) Try.underlying59 Try.underlying154 (by kernel_rfl) (by kernel_rfl) (by intro j f hf; rcases j with _ | _ | _ | j <;> simp at hf <;> subst hf <;> exact Try.underlying3) (by decide) e0_3
  obtain ⟨z0_5, r0_5, w0_5⟩ := kAuths Try.underlying62 Try.underlying150 (by refine ⟨rfl, rfl, ?_, ?_⟩ <;> kernel_rfl) (by kernel_rfl) Try.underlying24 Try.underlying24 Try.underlying3 (by kernel_rfl) e0_5
  obtain ⟨z0_8, rfl⟩ := tB Try.underlying4 e0_8
  clear hA0 hval0
  refine (walk W (EM.mk (KM.mk z0_0 z0_1) (AM.mk z0_2 z0_3 z0_4) z0_5 z0_6 z0_7 z0_8) _ (cengine_mk r0_1 r0_3 r0_4 r0_5 r0_6) ⟨⟨wf_i64 w0_0, w0_1⟩, ⟨wf_i64 w0_2, w0_3, w0_4⟩, w0_5, w0_6, wf_i64 w0_7⟩).mono fun e W' ⟨he, hg⟩ => ?_
  subst he
  have bel := gbEnd hg
  exact ⟨_, rfl, _, _, _, [], _, [], hW', trodAll_mk1 (shut_bool Try.underlying4 _), (trodAll_cons_mk (Below.trod laidOut (by kernel_rfl) (of_decide_eq_true (by kernel_rfl)) k0 bel lt0) trodAll_mk0), rfl, bel.frame _, fun h => by cases h⟩
set_option maxHeartbeats 4000000 in
theorem closed : joinedFacts Try.prog 6 Try.f6 Rows.fnExactEngineOutputsSpec Rows.fnExactEngineOutputsRow = true := by
  unfold joinedFacts
  repeat' (with_reducible refine andT ?_ ?_)
  all_goals first | (with_reducible exact mayEnter) | ((with_reducible refine lF ?_); rfl) | ((with_reducible refine mK ?_); rfl) | (as_aux_lemma => kernel_rfl)
theorem over : Rows.fnExactEngineOutputsRow.holds Try.pinned (OpenSpec.ofChange Rows.fnExactEngineOutputsSpec) :=
  OpenClaim.holds_of_wide 6 Try.f6 rfl rfl rfl rfl rfl rfl rfl ⟨rfl, rfl, rfl, rfl, rfl⟩ rfl rfl rfl rfl rfl (by as_aux_lemma => kernel_rfl) Try.func6 closed
    (of_decide_eq_true (by as_aux_lemma => kernel_rfl)) (by unfold Func.isWrapper; first | (rw [if_pos (by decide +kernel)]; kernel_rfl) | (rw [if_neg (by decide +kernel)]; exact ⟨rfl, rfl⟩))
    (fun os started H enc _ => lifted os started H enc)
theorem proved : Rows.FnExactEngineOutputsSaid := over
end Go.Proofs.Ythaadgdeadbhkaa.FnExactEngineOutputs
