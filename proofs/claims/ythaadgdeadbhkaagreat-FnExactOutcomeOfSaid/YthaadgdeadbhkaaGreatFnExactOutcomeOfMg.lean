/-
 FnExactOutcomeOf: the law holds: for every input the call returns true and leaves its arguments as they were. No condition.
-/
import Derived.Test.YthaadgdeadbhkaaGreatMgFnExactOutcomeOf45
import Derived.Test.YthaadgdeadbhkaaGreatMgFnExactOutcomeOf46
namespace Go.Proofs.YthaadgdeadbhkaaGreat.FnExactOutcomeOf
open Go.ChangeShapes Go.WideShapes Go.ChangeAt Go.RowKit Go.Joins
set_option linter.unusedVariables false
set_option linter.unusedSimpArgs false
set_option maxRecDepth 100000 in
theorem lifted (os:Os) (started:os.Started) (H:Type) (enc:TypeId × Value→H) :
  ReturnsInHanded {} Tryz.checked os 5 .any (Rows.fnExactOutcomeOfSpec.pre6 enc Tryz.prog Tryz.f5 Rows.fnExactOutcomeOfRow.domain false) (Rows.fnExactOutcomeOfSpec.post enc Tryz.prog Tryz.f5 false true false false):=by
 refine returnsInHanded_of_change (C:=Tryz.checked) own started (by kernel_rfl) Tryz.func5
  (ChangeSpec.witness6 (enc:=enc) (C:=Tryz.checked) false ⟨#[],#[.agg #[.int .i64 0,.slice none 0 0],.agg #[.int .i64 0,.slice none 0 0,.slice none 0 0],.slice none 0 0,.agg #[.int .i64 0,.int .i64 0],.slice none 0 0],[]⟩ 8 (by kernel_rfl) (by kernel_rfl) (by kernel_rfl) (by kernel_rfl)) ?_
 intro W base args ds gs before hval0 hW hcnd _;have hval:∀(j:Nat) t v,Tryz.f5.params[j]?=some t→args[j]?=some v→Value.okWide Tryz.prog W .any base t v:=hval0;have hW':=hW;obtain ⟨p,q,hA0,hV,rfl,hfz,hnd⟩:=hW;have hA:DataW.TrodAll enc Tryz.prog W 0 (fun _=>true) true Tryz.f5.params.toList args.toList ds p:=hA0;rw [Tryz.params5] at hA hval;obtain ⟨v0,vs0,d0,ds0,p0,q0,hargs,rfl,rfl,h0,r0⟩:=trodAll_cons hA;obtain ⟨v1,vs1,d1,ds1,p1,q1,rfl,rfl,rfl,h1,r1⟩:=trodAll_cons r0;obtain ⟨v2,vs2,d2,ds2,p2,q2,rfl,rfl,rfl,h2,r2⟩:=trodAll_cons r1;obtain ⟨v3,vs3,d3,ds3,p3,q3,rfl,rfl,rfl,h3,r3⟩:=trodAll_cons r2;obtain ⟨v4,vs4,d4,ds4,p4,q4,rfl,rfl,rfl,h4,r4⟩:=trodAll_cons r3;obtain ⟨rfl,rfl,rfl⟩:=trodAll_nil r4;obtain rfl:args=#[v0,v1,v2,v3,v4]:=by cases args;simp_all
 obtain ⟨rfl,rfl⟩:=trodVars_none hV;have k0:=h0;have lt0:∀x∈p0,x.block<W.heap.size:=by obtain ⟨m,hm⟩:=k0;exact DataW.trod_lt m _ _ _ hm
 obtain ⟨x0_0,x0_1,y0_0,y0_1,m0,rfl,rfl,rfl,e0_0,e0_1⟩:=open_agg2 Tryz.underlying24 (by kernel_rfl) (by kernel_rfl) (hval 0 24 v0 rfl rfl) h0;obtain ⟨z0_0,rfl,w0_0⟩:=tI Tryz.underlying3 e0_0;obtain ⟨z0_1,r0_1',w0_1⟩:=kInts Tryz.underlying22 Tryz.underlying3 (by kernel_rfl) e0_1;have k1:=h1;have lt1:∀x∈p1,x.block<W.heap.size:=by obtain ⟨m,hm⟩:=k1;exact DataW.trod_lt m _ _ _ hm
 obtain ⟨x1_0,x1_1,x1_2,y1_0,y1_1,y1_2,m1,rfl,rfl,rfl,e1_0,e1_1,e1_2⟩:=open_agg3 Tryz.underlying27 (by kernel_rfl) (by kernel_rfl) (hval 1 27 v1 rfl rfl) h1;obtain ⟨z1_0,rfl,w1_0⟩:=tI Tryz.underlying3 e1_0;obtain ⟨z1_1,r1_1',w1_1⟩:=kSt3 (E:=102) Tryz.underlying25 Tryz.underlying133 (by kernel_rfl) (by kernel_rfl) (by intro j f hf;rcases j with _ | _ | _ | j <;> simp at hf <;> subst hf <;> exact Tryz.underlying3) (by decide) e1_1;obtain ⟨z1_2,r1_2',w1_2⟩:=kInts Tryz.underlying22 Tryz.underlying3 (by kernel_rfl) e1_2;have k2:=h2;have lt2:∀x∈p2,x.block<W.heap.size:=by obtain ⟨m,hm⟩:=k2;exact DataW.trod_lt m _ _ _ hm
 obtain ⟨A2,n2,c2,rfl⟩:=okWide_slice Tryz.underlying22 (hval 2 22 v2 rfl rfl)
 obtain ⟨zs2,hz2,hm2,hc2⟩:∃zs,IntsK .i64 W A2 n2 zs∧n2≤c2∧c2≤maxLen:=by
  obtain ⟨m,hm⟩:=h2;obtain ⟨A,n,c,zs,he,h1,h2,h3⟩:=tSC Tryz.underlying22 Tryz.underlying3 (by kernel_rfl) hm;injection he with e1 e2 e3;subst e1;subst e2;subst e3;exact ⟨zs,h1,h2,h3⟩
 have k3:=h3;have lt3:∀x∈p3,x.block<W.heap.size:=by obtain ⟨m,hm⟩:=k3;exact DataW.trod_lt m _ _ _ hm
 obtain ⟨x3_0,x3_1,y3_0,y3_1,m3,rfl,rfl,rfl,e3_0,e3_1⟩:=open_agg2 Tryz.underlying29 (by kernel_rfl) (by kernel_rfl) (hval 3 29 v3 rfl rfl) h3;obtain ⟨a3_0,rfl,w3_0⟩:=tI Tryz.underlying3 e3_0;obtain ⟨a3_1,rfl,w3_1⟩:=tI Tryz.underlying3 e3_1;have k4:=h4;have lt4:∀x∈p4,x.block<W.heap.size:=by obtain ⟨m,hm⟩:=k4;exact DataW.trod_lt m _ _ _ hm
 obtain ⟨A4,n4,c4,rfl⟩:=okWide_slice Tryz.underlying22 (hval 4 22 v4 rfl rfl)
 obtain ⟨zs4,hz4,hm4,hc4⟩:∃zs,IntsK .i64 W A4 n4 zs∧n4≤c4∧c4≤maxLen:=by
  obtain ⟨m,hm⟩:=h4;obtain ⟨A,n,c,zs,he,h1,h2,h3⟩:=tSC Tryz.underlying22 Tryz.underlying3 (by kernel_rfl) hm;injection he with e1 e2 e3;subst e1;subst e2;subst e3;exact ⟨zs,h1,h2,h3⟩
 clear hA0 hval0;refine (walk W (KM.mk z0_0 z0_1) _ (ckeys_mk r0_1') ⟨QV w0_0,w0_1⟩ (AM.mk z1_0 z1_1 z1_2) _ (carith_mk r1_1' r1_2') ⟨QV w1_0,w1_1,w1_2⟩ A2 n2 c2 zs2 hz2 hm2 hc2 a3_0 w3_0 a3_1 w3_1 A4 n4 c4 zs4 hz4 hm4 hc4).mono fun e W' ⟨he,hg⟩ => ?_;subst he;have bel:=gbEnd hg;exact ⟨_,rfl,_,_,_,[],_,[],hW',trodAll_mk1 (shut_bool Tryz.underlying4 _),(trodAll_cons_mk (Below.trod Jd (by kernel_rfl) (of_decide_eq_true (by kernel_rfl)) k0 bel lt0) (trodAll_cons_mk (Below.trod Jd (by kernel_rfl) (of_decide_eq_true (by kernel_rfl)) k1 bel lt1) (trodAll_cons_mk (Below.trod Jd (by kernel_rfl) (of_decide_eq_true (by kernel_rfl)) k2 bel lt2) (trodAll_cons_mk (Below.trod Jd (by kernel_rfl) (of_decide_eq_true (by kernel_rfl)) k3 bel lt3) (trodAll_cons_mk (Below.trod Jd (by kernel_rfl) (of_decide_eq_true (by kernel_rfl)) k4 bel lt4) trodAll_mk0))))),rfl,bel.frame _,fun h=>by cases h⟩
set_option maxHeartbeats 4000000 in
theorem closed:joinedFacts Tryz.prog 5 Tryz.f5 Rows.fnExactOutcomeOfSpec Rows.fnExactOutcomeOfRow=true:=by
 unfold joinedFacts
 repeat' (with_reducible refine andT ?_ ?_)
 all_goals first | (with_reducible exact mayEnter) | ((with_reducible refine lF ?_);rfl) | ((with_reducible refine mK ?_);rfl) | (as_aux_lemma=>kernel_rfl)
theorem over:Rows.fnExactOutcomeOfRow.holds Tryz.pinned (OpenSpec.ofChange Rows.fnExactOutcomeOfSpec) :=
 OpenClaim.holds_of_wide 5 Tryz.f5 rfl rfl rfl rfl rfl rfl rfl ⟨rfl,rfl,rfl,rfl,rfl⟩ rfl rfl rfl rfl rfl (by as_aux_lemma=>kernel_rfl) Tryz.func5 closed
  (of_decide_eq_true (by as_aux_lemma=>kernel_rfl)) (by unfold Func.isWrapper;first | (rw [if_pos (by decide +kernel)];kernel_rfl) | (rw [if_neg (by decide +kernel)];exact ⟨rfl,rfl⟩))
  (fun os started H enc _=>lifted os started H enc)
theorem proved:Rows.FnExactOutcomeOfSaid:=over
end Go.Proofs.YthaadgdeadbhkaaGreat.FnExactOutcomeOf
