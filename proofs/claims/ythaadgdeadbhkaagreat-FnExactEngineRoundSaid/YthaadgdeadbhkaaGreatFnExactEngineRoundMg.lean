/-
 FnExactEngineRound: the law holds: for every input the call returns true and leaves its arguments as they were. No condition.
-/
import Derived.Test.YthaadgdeadbhkaaGreatMgFnExactEngineRound45
import Derived.Test.YthaadgdeadbhkaaGreatMgFnExactEngineRound46
namespace Go.Proofs.YthaadgdeadbhkaaGreat.FnExactEngineRound
open Go.ChangeShapes Go.WideShapes Go.ChangeAt Go.RowKit Go.Joins
set_option linter.unusedVariables false
set_option linter.unusedSimpArgs false
set_option maxRecDepth 100000 in
theorem lifted (os:Os) (started:os.Started) (H:Type) (enc:TypeId × Value→H) :
  ReturnsInHanded {} Tryz.checked os 4 .any (Rows.fnExactEngineRoundSpec.pre6 enc Tryz.prog Tryz.f4 Rows.fnExactEngineRoundRow.domain false) (Rows.fnExactEngineRoundSpec.post enc Tryz.prog Tryz.f4 false true false false):=by
 refine returnsInHanded_of_change (C:=Tryz.checked) own started (by kernel_rfl) Tryz.func4
  (ChangeSpec.witness6 (enc:=enc) (C:=Tryz.checked) false ⟨#[],#[.agg #[.int .i64 0,.slice none 0 0,.int .i64 0,.slice none 0 0,.slice none 0 0,.slice none 0 0,.slice none 0 0,.int .i64 0,.bool false],.slice none 0 0,.slice none 0 0],[]⟩ 8 (by kernel_rfl) (by kernel_rfl) (by kernel_rfl) (by kernel_rfl)) ?_
 intro W base args ds gs before hval0 hW hcnd _;have hval:∀(j:Nat) t v,Tryz.f4.params[j]?=some t→args[j]?=some v→Value.okWide Tryz.prog W .any base t v:=hval0;have hW':=hW;obtain ⟨p,q,hA0,hV,rfl,hfz,hnd⟩:=hW;have hA:DataW.TrodAll enc Tryz.prog W 0 (fun _=>true) true Tryz.f4.params.toList args.toList ds p:=hA0;rw [Tryz.params4] at hA hval;obtain ⟨v0,vs0,d0,ds0,p0,q0,hargs,rfl,rfl,h0,r0⟩:=trodAll_cons hA;obtain ⟨v1,vs1,d1,ds1,p1,q1,rfl,rfl,rfl,h1,r1⟩:=trodAll_cons r0;obtain ⟨v2,vs2,d2,ds2,p2,q2,rfl,rfl,rfl,h2,r2⟩:=trodAll_cons r1;obtain ⟨rfl,rfl,rfl⟩:=trodAll_nil r2;obtain rfl:args=#[v0,v1,v2]:=by cases args;simp_all
 obtain ⟨rfl,rfl⟩:=trodVars_none hV;have k0:=h0;have lt0:∀x∈p0,x.block<W.heap.size:=by obtain ⟨m,hm⟩:=k0;exact DataW.trod_lt m _ _ _ hm
 obtain ⟨x0_0,x0_1,x0_2,x0_3,x0_4,x0_5,x0_6,x0_7,x0_8,m0,y0_0,y0_1,y0_2,y0_3,y0_4,y0_5,y0_6,y0_7,y0_8,rfl,e0_0,e0_1,e0_2,e0_3,e0_4,e0_5,e0_6,e0_7,e0_8⟩:=open_eng Tryz.underlying52 Tryz.underlying24 Tryz.underlying27 (by kernel_rfl) (by kernel_rfl) (hval 0 52 v0 rfl rfl) h0;obtain ⟨z0_0,rfl,w0_0⟩:=tI Tryz.underlying3 e0_0;obtain ⟨z0_2,rfl,w0_2⟩:=tI Tryz.underlying3 e0_2;obtain ⟨z0_7,rfl,w0_7⟩:=tI Tryz.underlying3 e0_7;obtain ⟨z0_1,r0_1,w0_1⟩:=kInts Tryz.underlying22 Tryz.underlying3 (by kernel_rfl) e0_1;obtain ⟨z0_4,r0_4,w0_4⟩:=kInts Tryz.underlying22 Tryz.underlying3 (by kernel_rfl) e0_4;obtain ⟨z0_6,r0_6,w0_6⟩:=kInts Tryz.underlying22 Tryz.underlying3 (by kernel_rfl) e0_6;obtain ⟨z0_3,r0_3,w0_3⟩:=kSt3 (E:=102) Tryz.underlying25 Tryz.underlying133 (by kernel_rfl) (by kernel_rfl) (by intro j f hf;rcases j with _ | _ | _ | j <;> simp at hf <;> subst hf <;> exact Tryz.underlying3) (by decide) e0_3;obtain ⟨z0_5,r0_5,w0_5⟩:=kAuths Tryz.underlying50 Tryz.underlying94 (by refine ⟨rfl,rfl, ?_, ?_⟩ <;> kernel_rfl) (by kernel_rfl) Tryz.underlying22 Tryz.underlying22 Tryz.underlying3 (by kernel_rfl) e0_5;obtain ⟨z0_8,rfl⟩:=tB Tryz.underlying4 e0_8;have k1:=h1;have lt1:∀x∈p1,x.block<W.heap.size:=by obtain ⟨m,hm⟩:=k1;exact DataW.trod_lt m _ _ _ hm
 obtain ⟨A1,n1,c1,rfl⟩:=okWide_slice Tryz.underlying53 (hval 1 53 v1 rfl rfl)
 obtain ⟨zs1,r1',w1⟩:∃xs:List TrM,(Zs xs).rd W (.slice A1 n1 c1)∧∀x∈xs,x.a.wf∧x.b.wf∧x.c.wf:=by
  obtain ⟨m,hm⟩:=h1;exact kTrips Tryz.underlying53 Tryz.underlying96 (by kernel_rfl) (by kernel_rfl) Tryz.underlying94 Tryz.underlying94 Tryz.underlying94 Tryz.underlying22 Tryz.underlying22 Tryz.underlying3 (by kernel_rfl) hm
 have k2:=h2;have lt2:∀x∈p2,x.block<W.heap.size:=by obtain ⟨m,hm⟩:=k2;exact DataW.trod_lt m _ _ _ hm
 obtain ⟨A2,n2,c2,rfl⟩:=okWide_slice Tryz.underlying22 (hval 2 22 v2 rfl rfl)
 obtain ⟨zs2,hz2,hm2,hc2⟩:∃zs,IntsK .i64 W A2 n2 zs∧n2≤c2∧c2≤maxLen:=by
  obtain ⟨m,hm⟩:=h2;obtain ⟨A,n,c,zs,he,h1,h2,h3⟩:=tSC Tryz.underlying22 Tryz.underlying3 (by kernel_rfl) hm;injection he with e1 e2 e3;subst e1;subst e2;subst e3;exact ⟨zs,h1,h2,h3⟩
 clear hA0 hval0;refine (walk W (EM.mk (KM.mk z0_0 z0_1) (AM.mk z0_2 z0_3 z0_4) z0_5 z0_6 z0_7 z0_8) _ (cengine_mk r0_1 r0_3 r0_4 r0_5 r0_6) ⟨⟨UH w0_0,w0_1⟩,⟨UH w0_2,w0_3,w0_4⟩,w0_5,w0_6,UH w0_7⟩ zs1 _ r1' w1 A2 n2 c2 zs2 hz2 hm2 hc2).mono fun e W' ⟨he,hg⟩ => ?_;subst he;have bel:=gbEnd hg;exact ⟨_,rfl,_,_,_,[],_,[],hW',trodAll_mk1 (shut_bool Tryz.underlying4 _),(trodAll_cons_mk (Below.trod laidOut (by kernel_rfl) (of_decide_eq_true (by kernel_rfl)) k0 bel lt0) (trodAll_cons_mk (Below.trod laidOut (by kernel_rfl) (of_decide_eq_true (by kernel_rfl)) k1 bel lt1) (trodAll_cons_mk (Below.trod laidOut (by kernel_rfl) (of_decide_eq_true (by kernel_rfl)) k2 bel lt2) trodAll_mk0))),rfl,bel.frame _,fun h=>by cases h⟩
set_option maxHeartbeats 4000000 in
theorem closed:joinedFacts Tryz.prog 4 Tryz.f4 Rows.fnExactEngineRoundSpec Rows.fnExactEngineRoundRow=true:=by
 unfold joinedFacts
 repeat' (with_reducible refine andT ?_ ?_)
 all_goals first | (with_reducible exact mayEnter) | ((with_reducible refine lF ?_);rfl) | ((with_reducible refine mK ?_);rfl) | (as_aux_lemma=>kernel_rfl)
theorem over:Rows.fnExactEngineRoundRow.holds Tryz.pinned (OpenSpec.ofChange Rows.fnExactEngineRoundSpec) :=
 OpenClaim.holds_of_wide 4 Tryz.f4 rfl rfl rfl rfl rfl rfl rfl ⟨rfl,rfl,rfl,rfl,rfl⟩ rfl rfl rfl rfl rfl (by as_aux_lemma=>kernel_rfl) Tryz.func4 closed
  (of_decide_eq_true (by as_aux_lemma=>kernel_rfl)) (by unfold Func.isWrapper;first | (rw [if_pos (by decide +kernel)];kernel_rfl) | (rw [if_neg (by decide +kernel)];exact ⟨rfl,rfl⟩))
  (fun os started H enc _=>lifted os started H enc)
theorem proved:Rows.FnExactEngineRoundSaid:=over
end Go.Proofs.YthaadgdeadbhkaaGreat.FnExactEngineRound
