/-
  FnExactOramValue: the law holds: for every input the call returns true and leaves its arguments as they were. No condition.
-/
import Derived.Test.YthncoohkdmjcaaaExOVal
import Derived.Test.YthncoohkdmjcaaaOpenO
namespace Go.Proofs.Ythncoohkdmjcaaa.FnExactOramValue
open Go.ChangeShapes Go.WideShapes Go.ChangeAt Go.RowKit Go.Joins
set_option linter.unusedVariables false
set_option maxRecDepth 100000 in
theorem lifted (os : Os) (started : os.Started) (H : Type) (enc : TypeId × Value → H) :
    ReturnsInHanded {} Try.checked os 7 .any (Rows.fnExactOramValueSpec.pre6 enc Try.prog Try.f7 Rows.fnExactOramValueRow.domain false) (Rows.fnExactOramValueSpec.post enc Try.prog Try.f7 false true false false) := by
  refine returnsInHanded_of_change (C := Try.checked) own started (by kernel_rfl) Try.func7
    (ChangeSpec.witness6 (enc := enc) (C := Try.checked) false ⟨#[], #[.agg #[.slice none 0 0, .slice none 0 0, .slice none 0 0], .int .i64 0], []⟩ 8 (by kernel_rfl) (by kernel_rfl) (by kernel_rfl) (by kernel_rfl)) ?_
  intro W base args ds gs before hval0 hW hcnd _
  have hval : ∀ (j : Nat) t v, Try.f7.params[j]? = some t → args[j]? = some v → Value.okWide Try.prog W .any base t v := hval0
  have hW' := hW
  obtain ⟨p, q, hA0, hV, rfl, hfz, hnd⟩ := hW
  have hA : DataW.TrodAll enc Try.prog W 0 (fun _ => true) true Try.f7.params.toList args.toList ds p := hA0
  rw [Try.params7] at hA hval
  obtain ⟨v0, vs0, d0, ds0, p0, q0, hargs, rfl, rfl, h0, r0⟩ := trodAll_cons hA
  obtain ⟨v1, vs1, d1, ds1, p1, q1, rfl, rfl, rfl, h1, r1⟩ := trodAll_cons r0
  obtain ⟨rfl, rfl, rfl⟩ := trodAll_nil r1
  obtain rfl : args = #[v0, v1] := by cases args; simp_all
  obtain ⟨rfl, rfl⟩ := trodVars_none hV
  have k0 := h0
  have lt0 : ∀ x ∈ p0, x.block < W.heap.size := by obtain ⟨m, hm⟩ := k0; exact DataW.trod_lt m _ _ _ hm
  obtain ⟨x0_0, x0_1, x0_2, y0_0, y0_1, y0_2, m0, rfl, rfl, rfl, e0_0, e0_1, e0_2⟩ := open_agg3 Try.underlying30 (by kernel_rfl) (by kernel_rfl) (hval 0 30 v0 rfl rfl) h0
  obtain ⟨z0_0, r0_0', w0_0⟩ := kRows (EE := 34) (plst 90 2 c2) Try.underlying27 Try.underlying28 (by kernel_rfl) (fun _ _ _ hh => kSt2 (E := 90) Try.underlying28 Try.underlying111 (by kernel_rfl) (by kernel_rfl) (by intro j f hf; rcases j with _ | _ | _ | j <;> simp at hf <;> subst hf <;> exact Try.underlying3) (by decide) hh) e0_0
  obtain ⟨z0_1, r0_1', w0_1⟩ := kSt2 (E := 90) Try.underlying28 Try.underlying111 (by kernel_rfl) (by kernel_rfl) (by intro j f hf; rcases j with _ | _ | _ | j <;> simp at hf <;> subst hf <;> exact Try.underlying3) (by decide) e0_1
  obtain ⟨z0_2, r0_2', w0_2⟩ := kInts Try.underlying22 Try.underlying3 (by kernel_rfl) e0_2
  have k1 := h1
  have lt1 : ∀ x ∈ p1, x.block < W.heap.size := by obtain ⟨m, hm⟩ := k1; exact DataW.trod_lt m _ _ _ hm
  obtain ⟨a1, rfl, rfl, rfl, w1⟩ := open_int Try.underlying3 (hval 1 3 v1 rfl rfl) h1
  clear hA0 hval0
  refine (walk W (OM.mk z0_0 z0_1 z0_2) _ (coram_mk r0_0' r0_1' r0_2') ⟨w0_0, w0_1, w0_2⟩ a1 w1).mono fun e W' ⟨he, hg⟩ => ?_
  subst he
  have bel := gbEnd hg
  exact ⟨_, rfl, _, _, _, [], _, [], hW', trodAll_mk1 (shut_bool Try.underlying4 _), (trodAll_cons_mk (Below.trod laidOut (by kernel_rfl) (of_decide_eq_true (by kernel_rfl)) k0 bel lt0) (trodAll_cons_mk (Below.trod laidOut (by kernel_rfl) (of_decide_eq_true (by kernel_rfl)) k1 bel lt1) trodAll_mk0)), rfl, bel.frame _, fun h => by cases h⟩

set_option maxHeartbeats 4000000 in
theorem closed : joinedFacts Try.prog 7 Try.f7 Rows.fnExactOramValueSpec Rows.fnExactOramValueRow = true := by
  unfold joinedFacts
  repeat' (with_reducible refine andT ?_ ?_)
  all_goals first | (with_reducible exact mayEnter) | ((with_reducible refine lF ?_); rfl) | ((with_reducible refine mK ?_); rfl) | (as_aux_lemma => kernel_rfl)
theorem over : Rows.fnExactOramValueRow.holds Try.pinned (OpenSpec.ofChange Rows.fnExactOramValueSpec) :=
  OpenClaim.holds_of_wide 7 Try.f7 rfl rfl rfl rfl rfl rfl rfl ⟨rfl, rfl, rfl, rfl, rfl⟩ rfl rfl rfl rfl rfl (by as_aux_lemma => kernel_rfl) Try.func7 closed
    (of_decide_eq_true (by as_aux_lemma => kernel_rfl)) (by unfold Func.isWrapper; first | (rw [if_pos (by decide +kernel)]; kernel_rfl) | (rw [if_neg (by decide +kernel)]; exact ⟨rfl, rfl⟩))
    (fun os started H enc _ => lifted os started H enc)

/-- The statement. -/
theorem proved : Rows.FnExactOramValueSaid := over
end Go.Proofs.Ythncoohkdmjcaaa.FnExactOramValue
