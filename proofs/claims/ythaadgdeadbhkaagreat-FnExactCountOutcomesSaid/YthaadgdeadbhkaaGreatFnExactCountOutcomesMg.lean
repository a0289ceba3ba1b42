/-
 FnExactCountOutcomes: the law holds: for every input the call returns true and leaves its arguments as they were. No condition.
-/
import Derived.Test.YthaadgdeadbhkaaGreatMgFnExactCountOutcomes45
import Derived.Test.YthaadgdeadbhkaaGreatMgFnExactCountOutcomes46
namespace Go.Proofs.YthaadgdeadbhkaaGreat.FnExactCountOutcomes
open Go.ChangeShapes Go.WideShapes Go.ChangeAt Go.RowKit Go.Joins
set_option linter.unusedVariables false
set_option linter.unusedSimpArgs false
set_option maxRecDepth 100000 in
theorem lifted (os:Os) (started:os.Started) (H:Type) (enc:TypeId × Value→H) :
  ReturnsInHanded {} Tryz.checked os 6 .any (Rows.fnExactCountOutcomesSpec.pre6 enc Tryz.prog Tryz.f6 Rows.fnExactCountOutcomesRow.domain false) (Rows.fnExactCountOutcomesSpec.post enc Tryz.prog Tryz.f6 false true false false):=by
 refine returnsInHanded_of_change (C:=Tryz.checked) own started (by kernel_rfl) Tryz.func6
  (ChangeSpec.witness6 (enc:=enc) (C:=Tryz.checked) false ⟨#[],#[.agg #[.int .i64 0,.slice none 0 0,.slice none 0 0],.slice none 0 0,.agg #[.int .i64 0,.int .i64 0],.slice none 0 0],[]⟩ 8 (by kernel_rfl) (by kernel_rfl) (by kernel_rfl) (by kernel_rfl)) ?_
 intro W base args ds gs before hval0 hW hcnd _;have hval:∀(j:Nat) t v,Tryz.f6.params[j]?=some t→args[j]?=some v→Value.okWide Tryz.prog W .any base t v:=hval0;have hW':=hW;obtain ⟨p,q,hA0,hV,rfl,hfz,hnd⟩:=hW;have hA:DataW.TrodAll enc Tryz.prog W 0 (fun _=>true) true Tryz.f6.params.toList args.toList ds p:=hA0;rw [Tryz.params6] at hA hval;obtain ⟨v0,vs0,d0,ds0,p0,q0,hargs,rfl,rfl,h0,r0⟩:=trodAll_cons hA;obtain ⟨v1,vs1,d1,ds1,p1,q1,rfl,rfl,rfl,h1,r1⟩:=trodAll_cons r0;obtain ⟨v2,vs2,d2,ds2,p2,q2,rfl,rfl,rfl,h2,r2⟩:=trodAll_cons r1;obtain ⟨v3,vs3,d3,ds3,p3,q3,rfl,rfl,rfl,h3,r3⟩:=trodAll_cons r2;obtain ⟨rfl,rfl,rfl⟩:=trodAll_nil r3;obtain rfl:args=#[v0,v1,v2,v3]:=by cases args;simp_all
 obtain ⟨rfl,rfl⟩:=trodVars_none hV;have k0:=h0;have lt0:∀x∈p0,x.block<W.heap.size:=by obtain ⟨m,hm⟩:=k0;exact DataW.trod_lt m _ _ _ hm
 obtain ⟨x0_0,x0_1,x0_2,y0_0,y0_1,y0_2,m0,rfl,rfl,rfl,e0_0,e0_1,e0_2⟩:=open_agg3 Tryz.underlying27 (by kernel_rfl) (by kernel_rfl) (hval 0 27 v0 rfl rfl) h0;obtain ⟨z0_0,rfl,w0_0⟩:=tI Tryz.underlying3 e0_0;obtain ⟨z0_1,r0_1',w0_1⟩:=kSt3 (E:=102) Tryz.underlying25 Tryz.underlying133 (by kernel_rfl) (by kernel_rfl) (by intro j f hf;rcases j with _ | _ | _ | j <;> simp at hf <;> subst hf <;> exact Tryz.underlying3) (by decide) e0_1;obtain ⟨z0_2,r0_2',w0_2⟩:=kInts Tryz.underlying22 Tryz.underlying3 (by kernel_rfl) e0_2;have k1:=h1;have lt1:∀x∈p1,x.block<W.heap.size:=by obtain ⟨m,hm⟩:=k1;exact DataW.trod_lt m _ _ _ hm
 obtain ⟨A1,n1,c1,rfl⟩:=okWide_slice Tryz.underlying22 (hval 1 22 v1 rfl rfl)
 obtain ⟨zs1,hz1,hm1,hc1⟩:∃zs,IntsK .i64 W A1 n1 zs∧n1≤c1∧c1≤maxLen:=by
  obtain ⟨m,hm⟩:=h1;obtain ⟨A,n,c,zs,he,h1,h2,h3⟩:=tSC Tryz.underlying22 Tryz.underlying3 (by kernel_rfl) hm;injection he with e1 e2 e3;subst e1;subst e2;subst e3;exact ⟨zs,h1,h2,h3⟩
 have k2:=h2;have lt2:∀x∈p2,x.block<W.heap.size:=by obtain ⟨m,hm⟩:=k2;exact DataW.trod_lt m _ _ _ hm
 obtain ⟨x2_0,x2_1,y2_0,y2_1,m2,rfl,rfl,rfl,e2_0,e2_1⟩:=open_agg2 Tryz.underlying29 (by kernel_rfl) (by kernel_rfl) (hval 2 29 v2 rfl rfl) h2;obtain ⟨a2_0,rfl,w2_0⟩:=tI Tryz.underlying3 e2_0;obtain ⟨a2_1,rfl,w2_1⟩:=tI Tryz.underlying3 e2_1;have k3:=h3;have lt3:∀x∈p3,x.block<W.heap.size:=by obtain ⟨m,hm⟩:=k3;exact DataW.trod_lt m _ _ _ hm
 obtain ⟨A3,n3,c3,rfl⟩:=okWide_slice Tryz.underlying22 (hval 3 22 v3 rfl rfl)
 obtain ⟨zs3,hz3,hm3,hc3⟩:∃zs,IntsK .i64 W A3 n3 zs∧n3≤c3∧c3≤maxLen:=by
  obtain ⟨m,hm⟩:=h3;obtain ⟨A,n,c,zs,he,h1,h2,h3⟩:=tSC Tryz.underlying22 Tryz.underlying3 (by kernel_rfl) hm;injection he with e1 e2 e3;subst e1;subst e2;subst e3;exact ⟨zs,h1,h2,h3⟩
 clear hA0 hval0;refine (walk W (AM.mk z0_0 z0_1 z0_2) _ (carith_mk r0_1' r0_2') ⟨Jp w0_0,w0_1,w0_2⟩ A1 n1 c1 zs1 hz1 hm1 hc1 a2_0 w2_0 a2_1 w2_1 A3 n3 c3 zs3 hz3 hm3 hc3).mono fun e W' ⟨he,hg⟩ => ?_;subst he;have bel:=gbEnd hg;exact ⟨_,rfl,_,_,_,[],_,[],hW',trodAll_mk1 (shut_bool Tryz.underlying4 _),(trodAll_cons_mk (Below.trod JE (by kernel_rfl) (of_decide_eq_true (by kernel_rfl)) k0 bel lt0) (trodAll_cons_mk (Below.trod JE (by kernel_rfl) (of_decide_eq_true (by kernel_rfl)) k1 bel lt1) (trodAll_cons_mk (Below.trod JE (by kernel_rfl) (of_decide_eq_true (by kernel_rfl)) k2 bel lt2) (trodAll_cons_mk (Below.trod JE (by kernel_rfl) (of_decide_eq_true (by kernel_rfl)) k3 bel lt3) trodAll_mk0)))),rfl,bel.frame _,fun h=>by cases h⟩
set_option maxHeartbeats 4000000 in
theorem closed:joinedFacts Tryz.prog 6 Tryz.f6 Rows.fnExactCountOutcomesSpec Rows.fnExactCountOutcomesRow=true:=by
 unfold joinedFacts
 repeat' (with_reducible refine andT ?_ ?_)
 all_goals first | (with_reducible exact mayEnter) | ((with_reducible refine lF ?_);rfl) | ((with_reducible refine mK ?_);rfl) | (as_aux_lemma=>kernel_rfl)
theorem over:Rows.fnExactCountOutcomesRow.holds Tryz.pinned (OpenSpec.ofChange Rows.fnExactCountOutcomesSpec) :=
 OpenClaim.holds_of_wide 6 Tryz.f6 rfl rfl rfl rfl rfl rfl rfl ⟨rfl,rfl,rfl,rfl,rfl⟩ rfl rfl rfl rfl rfl (by as_aux_lemma=>kernel_rfl) Tryz.func6 closed
  (of_decide_eq_true (by as_aux_lemma=>kernel_rfl)) (by unfold Func.isWrapper;first | (rw [if_pos (by decide +kernel)];kernel_rfl) | (rw [if_neg (by decide +kernel)];exact ⟨rfl,rfl⟩))
  (fun os started H enc _=>lifted os started H enc)
theorem proved:Rows.FnExactCountOutcomesSaid:=over
end Go.Proofs.YthaadgdeadbhkaaGreat.FnExactCountOutcomes
