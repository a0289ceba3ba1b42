/-
  FnConstantCircuits: the law holds: for every input the call returns true and leaves its arguments as they were. No condition.
-/
import Derived.Test.YthdfkiaoahpjpaaMgFnConstantCircuits46
namespace Go.Proofs.Ythdfkiaoahpjpaa.FnConstantCircuits
open Go.ChangeShapes Go.WideShapes Go.ChangeAt Go.RowKit Go.Joins
set_option linter.unusedVariables false
set_option linter.unusedSimpArgs false
set_option maxRecDepth 100000 in
theorem lifted (os : Os) (started : os.Started) (H : Type) (enc : TypeId × Value → H) :
    ReturnsInHanded {} Try.checked os 5 .any (Rows.fnConstantCircuitsSpec.pre6 enc Try.prog Try.f5 Rows.fnConstantCircuitsRow.domain false) (Rows.fnConstantCircuitsSpec.post enc Try.prog Try.f5 false true false false) := by
  refine returnsInHanded_of_change (C := Try.checked) own started (by kernel_rfl) Try.func5
    (ChangeSpec.witness6 (enc := enc) (C := Try.checked) false ⟨#[], #[.slice none 0 0], []⟩ 8 (by kernel_rfl) (by kernel_rfl) (by kernel_rfl) (by kernel_rfl)) ?_
  intro W base args ds gs before hval0 hW hcnd _
  have hval : ∀ (j : Nat) t v, Try.f5.params[j]? = some t → args[j]? = some v → Value.okWide Try.prog W .any base t v := hval0
  have hW' := hW
  obtain ⟨p, q, hA0, hV, rfl, hfz, hnd⟩ := hW
  have hA : DataW.TrodAll enc Try.prog W 0 (fun _ => true) true Try.f5.params.toList args.toList ds p := hA0
  rw [Try.params5] at hA hval
  obtain ⟨v0, vs0, d0, ds0, p0, q0, hargs, rfl, rfl, h0, r0⟩ := trodAll_cons hA
  obtain ⟨rfl, rfl, rfl⟩ := trodAll_nil r0
  obtain rfl : args = #[v0] := by cases args; simp_all
  obtain ⟨rfl, rfl⟩ := trodVars_none hV
  have k0 := h0
  have lt0 : ∀ x ∈ p0, x.block < W.heap.size := by obtain ⟨m, hm⟩ := k0; exact DataW.trod_lt m _ _ _ hm
  obtain ⟨A0, n0, c0, rfl⟩ := okWide_slice Try.underlying22 (hval 0 22 v0 rfl rfl)
  obtain ⟨zs0, hz0, hm0⟩ : ∃ zs, IntsK .u8 W A0 n0 zs ∧ n0 ≤ maxLen := by
    obtain ⟨m, hm⟩ := h0
    obtain ⟨A, n, c, zs, he, h1, h2⟩ := tS Try.underlying22 Try.underlying5 (by kernel_rfl) hm
    injection he with e1 e2 e3; subst e1; subst e2; exact ⟨zs, h1, h2⟩
  clear hA0 hval0
  refine (walk W A0 n0 c0 zs0 hz0 hm0).mono fun e W' ⟨he, hg⟩ => ?_
  subst he
  have bel := gbEnd hg
  exact ⟨_, rfl, _, _, _, [], _, [], hW', trodAll_mk1 (shut_bool Try.underlying4 _), (trodAll_cons_mk (Below.trod laidOut (by kernel_rfl) (of_decide_eq_true (by kernel_rfl)) k0 bel lt0) trodAll_mk0), rfl, bel.frame _, fun h => by cases h⟩
set_option maxHeartbeats 4000000 in
theorem closed : joinedFacts Try.prog 5 Try.f5 Rows.fnConstantCircuitsSpec Rows.fnConstantCircuitsRow = true := by
  unfold joinedFacts
  repeat' (with_reducible refine andT ?_ ?_)
  all_goals first | (with_reducible exact mayEnter) | ((with_reducible refine lF ?_); rfl) | ((with_reducible refine mK ?_); rfl) | (as_aux_lemma => kernel_rfl)
theorem over : Rows.fnConstantCircuitsRow.holds Try.pinned (OpenSpec.ofChange Rows.fnConstantCircuitsSpec) :=
  OpenClaim.holds_of_wide 5 Try.f5 rfl rfl rfl rfl rfl rfl rfl ⟨rfl, rfl, rfl, rfl, rfl⟩ rfl rfl rfl rfl rfl (by as_aux_lemma => kernel_rfl) Try.func5 closed
    (of_decide_eq_true (by as_aux_lemma => kernel_rfl)) (by unfold Func.isWrapper; first | (rw [if_pos (by decide +kernel)]; kernel_rfl) | (rw [if_neg (by decide +kernel)]; exact ⟨rfl, rfl⟩))
    (fun os started H enc _ => lifted os started H enc)
theorem proved : Rows.FnConstantCircuitsSaid := over
end Go.Proofs.Ythdfkiaoahpjpaa.FnConstantCircuits
