/-
  FnExactCopiesNew: the law holds: for every input the call returns true and leaves its arguments as they were. No condition.
-/
import Derived.Test.YthdfkiaoahpjpaaMgFnExactCopiesNew44
import Derived.Test.YthdfkiaoahpjpaaMgFnExactCopiesNew46
namespace Go.Proofs.Ythdfkiaoahpjpaa.FnExactCopiesNew
open Go.ChangeShapes Go.WideShapes Go.ChangeAt Go.RowKit Go.Joins
set_option linter.unusedVariables false
set_option linter.unusedSimpArgs false
set_option maxRecDepth 100000 in
theorem lifted (os : Os) (started : os.Started) (H : Type) (enc : TypeId × Value → H) :
    ReturnsInHanded {} Try.checked os 6 .any (Rows.fnExactCopiesNewSpec.pre6 enc Try.prog Try.f6 Rows.fnExactCopiesNewRow.domain false) (Rows.fnExactCopiesNewSpec.post enc Try.prog Try.f6 false true false false) := by
  refine returnsInHanded_of_change (C := Try.checked) own started (by kernel_rfl) Try.func6
    (ChangeSpec.witness6 (enc := enc) (C := Try.checked) false ⟨#[], #[.agg #[.slice none 0 0, .slice none 0 0], .slice none 0 0], []⟩ 8 (by kernel_rfl) (by kernel_rfl) (by kernel_rfl) (by kernel_rfl)) ?_
  intro W base args ds gs before hval0 hW hcnd _
  have hval : ∀ (j : Nat) t v, Try.f6.params[j]? = some t → args[j]? = some v → Value.okWide Try.prog W .any base t v := hval0
  have hW' := hW
  obtain ⟨p, q, hA0, hV, rfl, hfz, hnd⟩ := hW
  have hA : DataW.TrodAll enc Try.prog W 0 (fun _ => true) true Try.f6.params.toList args.toList ds p := hA0
  rw [Try.params6] at hA hval
  obtain ⟨v0, vs0, d0, ds0, p0, q0, hargs, rfl, rfl, h0, r0⟩ := trodAll_cons hA
  obtain ⟨v1, vs1, d1, ds1, p1, q1, rfl, rfl, rfl, h1, r1⟩ := trodAll_cons r0
  obtain ⟨rfl, rfl, rfl⟩ := trodAll_nil r1
  obtain rfl : args = #[v0, v1] := by cases args; simp_all
  obtain ⟨rfl, rfl⟩ := trodVars_none hV
  have k0 := h0
  have lt0 : ∀ x ∈ p0, x.block < W.heap.size := by obtain ⟨m, hm⟩ := k0; exact DataW.trod_lt m _ _ _ hm
  obtain ⟨x0_0, x0_1, y0_0, y0_1, m0, rfl, rfl, rfl, e0_0, e0_1⟩ := open_agg2 Try.underlying44 (by kernel_rfl) (by kernel_rfl) (hval 0 44 v0 rfl rfl) h0
  obtain ⟨z0_0, r0_0', w0_0⟩ := kSt3 (E := 41) Try.underlying42 Try.underlying127 (by kernel_rfl) (by kernel_rfl) (by intro j f hf; rcases j with _ | _ | _ | j <;> simp at hf <;> subst hf <;> exact Try.underlying3) (by decide) e0_0
  obtain ⟨z0_1, r0_1', w0_1⟩ := kInts Try.underlying24 Try.underlying3 (by kernel_rfl) e0_1
  have k1 := h1
  have lt1 : ∀ x ∈ p1, x.block < W.heap.size := by obtain ⟨m, hm⟩ := k1; exact DataW.trod_lt m _ _ _ hm
  obtain ⟨A1, n1, c1, rfl⟩ := okWide_slice Try.underlying24 (hval 1 24 v1 rfl rfl)
  obtain ⟨zs1, hz1, hm1, hc1⟩ : ∃ zs, IntsK .i64 W A1 n1 zs ∧ n1 ≤ c1 ∧ c1 ≤ maxLen := by
    obtain ⟨m, hm⟩ := h1
    obtain ⟨A, n, c, zs, he, h1, h2, h3⟩ := tSC Try.underlying24 Try.underlying3 (by kernel_rfl) hm
    injection he with e1 e2 e3; subst e1; subst e2; subst e3; exact ⟨zs, h1, h2, h3⟩
  clear hA0 hval0
  refine (walk W (CM.mk z0_0 z0_1) _ (ccircuit_mk r0_0' r0_1') ⟨w0_0, w0_1⟩ A1 n1 c1 zs1 hz1 hm1 hc1).mono fun e W' ⟨he, hg⟩ => ?_
  subst he
  have bel := gbEnd hg
  exact ⟨_, rfl, _, _, _, [], _, [], hW', trodAll_mk1 (shut_bool Try.underlying4 _), (trodAll_cons_mk (Below.trod laidOut (by kernel_rfl) (of_decide_eq_true (by kernel_rfl)) k0 bel lt0) (trodAll_cons_mk (Below.trod laidOut (by kernel_rfl) (of_decide_eq_true (by kernel_rfl)) k1 bel lt1) trodAll_mk0)), rfl, bel.frame _, fun h => by cases h⟩
set_option maxHeartbeats 4000000 in
theorem closed : joinedFacts Try.prog 6 Try.f6 Rows.fnExactCopiesNewSpec Rows.fnExactCopiesNewRow = true := by
  unfold joinedFacts
  repeat' (with_reducible refine andT ?_ ?_)
  all_goals first | (with_reducible exact mayEnter) | ((with_reducible refine lF ?_); rfl) | ((with_reducible refine mK ?_); rfl) | (as_aux_lemma => kernel_rfl)
theorem over : Rows.fnExactCopiesNewRow.holds Try.pinned (OpenSpec.ofChange Rows.fnExactCopiesNewSpec) :=
  OpenClaim.holds_of_wide 6 Try.f6 rfl rfl rfl rfl rfl rfl rfl ⟨rfl, rfl, rfl, rfl, rfl⟩ rfl rfl rfl rfl rfl (by as_aux_lemma => kernel_rfl) Try.func6 closed
    (of_decide_eq_true (by as_aux_lemma => kernel_rfl)) (by unfold Func.isWrapper; first | (rw [if_pos (by decide +kernel)]; kernel_rfl) | (rw [if_neg (by decide +kernel)]; exact ⟨rfl, rfl⟩))
    (fun os started H enc _ => lifted os started H enc)
theorem proved : Rows.FnExactCopiesNewSaid := over
end Go.Proofs.Ythdfkiaoahpjpaa.FnExactCopiesNew
