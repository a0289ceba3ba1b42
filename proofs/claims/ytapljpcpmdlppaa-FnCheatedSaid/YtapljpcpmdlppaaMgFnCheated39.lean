/-
 The engine's run: all its rounds; what it gives when no opening is wrong,and when one is. No program.
-/
import Derived.Test.YtapljpcpmdlppaaMgFnCheated30
import Derived.Test.YtapljpcpmdlppaaMgFnCheated33
import Derived.Test.YtapljpcpmdlppaaMgFnCheated36
import Derived.Test.YtapljpcpmdlppaaMgFnCheated38
import Derived.Test.YtapljpcpmdlppaaMgFnCheated31
import Derived.Test.YtapljpcpmdlppaaMgFnCheated29
namespace Go.Proofs.Ytapljpcpmdlppaa
set_option linter.unusedVariables false
set_option linter.unusedSimpArgs false
section
variable {k : KM} {c : AM} {P s1 s2 : Nat} {ins es : List Int}
theorem mulsOf_at {Q : Nat → AuM → Prop} {r : Nat} {e : EM} (h : At Q k c r e) : mulsOf e = mulsAt c ((r : Int) + 1):=by
 unfold mulsOf; rw [h.ec,h.rd]
theorem mulsOf_n {Q : Nat → AuM → Prop} {r : Nat} {e : EM} (h : At Q k c r e) : (mulsOf e).length = nAt c r:=by rw [mulsOf_at h]; rfl
theorem engAt_zero (hf : Fit k c P ins) {Q : Nat → AuM → Prop} (hQ : PC k c Q) (hG : ∀ i a,PG k c ins i a → Q i a) : At Q k c 0 (engAt k c P s1 s2 ins es 0) :=
 ⟨rfl,rfl,rfl,adds_post hQ hf.ok (init_pre hf hG)⟩
theorem trsF (hf : Fit k c P ins) {Q : Nat → AuM → Prop} {r a : Nat} {e : EM} (h : At Q k c r e) : tripG k (trsN k P s2 a (nAt c r)) (mulsOf e).length:=by
 rw [mulsOf_n h]; exact trsN_good hf.kb hf.pn
theorem engAt_may (hf : Fit k c P ins) (he : elemsB k.p es = true) {Q : Nat → AuM → Prop} (hQ : ∀ i a,Q i a → formB k a = true) {r : Nat} {e : EM} (h : At Q k c r e) (hb : e.bad = false) (hr : (r : Int) < rounds c) : mayB e (trsN k P s2 (totM c r * trW k) (nAt c r)) (errsN es (2 * totM c r) (2 * nAt c r)) = true :=
 h.may hf hQ hb hr (trsF hf h).f (errsN_el he _ _)
theorem engAt_succ (hf : Fit k c P ins) (he : elemsB k.p es = true) {Q : Nat → AuM → Prop} (hQ : ∀ i a,Q i a → formB k a = true) {r : Nat} (h : At Q k c r (engAt k c P s1 s2 ins es r)) (hb : (engAt k c P s1 s2 ins es r).bad = false) (hr : (r : Int) < rounds c) :
  engAt k c P s1 s2 ins es (r + 1) = roundEnd (engAt k c P s1 s2 ins es r) (roundTo (engAt k c P s1 s2 ins es r) (trsN k P s2 (totM c r * trW k) (nAt c r)) (errsN es (2 * totM c r) (2 * nAt c r)) (mulsOf (engAt k c P s1 s2 ins es r)) (mulsOf (engAt k c P s1 s2 ins es r)).length):=by
 rw [engAt,engRound,if_pos (engAt_may hf he hQ h hb hr)]
theorem engAt_bad {r : Nat} (h : (engAt k c P s1 s2 ins es r).bad = true) : engAt k c P s1 s2 ins es (r + 1) = engAt k c P s1 s2 ins es r:=by
 rw [engAt,engRound,if_neg]
 unfold mayB
 simp [h]
theorem engAt_stuck {r : Nat} (h : (engAt k c P s1 s2 ins es r).bad = true) : ∀ d,engAt k c P s1 s2 ins es (r + d) = engAt k c P s1 s2 ins es r
 | 0 => rfl
 | d + 1 => by
  have ih:=engAt_stuck h d
  rw [← Nat.add_assoc,engAt_bad (by rw [ih]; exact h),ih]
theorem errs_at {r j : Nat} (h : j < nAt c r) : errAt (errsN es (2 * totM c r) (2 * nAt c r)) (2 * j) = errAt es (2 * (totM c r + j)) ∧ errAt (errsN es (2 * totM c r) (2 * nAt c r)) (2 * j + 1) = errAt es (2 * (totM c r + j) + 1):=by
 rw [errsN_at (by omega),errsN_at (by omega)]
 exact ⟨by congr 1; omega,by congr 1; omega⟩
theorem totM_succ (c : AM) (r : Nat) : totM c (r + 1) = totM c r + nAt c r:=totTo_next c r
theorem totM_zero (c : AM) : totM c 0 = 0:=by
 unfold totM
 generalize (mdepth c).length = n
 rfl
theorem run_form (hf : Fit k c P ins) (he : elemsB k.p es = true) : ∀ r : Nat,(r : Int) ≤ rounds c → (r = 0 ∨ (engAt k c P s1 s2 ins es (r - 1)).bad = false) → At (PF k) k c r (engAt k c P s1 s2 ins es r)
 | 0,_,_ => engAt_zero hf PF.pc fun i a h => Good.form h
 | r + 1,hr,hb => by
  have hb : (engAt k c P s1 s2 ins es r).bad = false:=by
   rcases hb with hb | hb
   ·omega
   ·exact hb
  have hprev : r = 0 ∨ (engAt k c P s1 s2 ins es (r - 1)).bad = false:=by
   rcases Nat.eq_zero_or_pos r with h0 | h0
   ·exact .inl h0
   ·refine .inr ?_
    cases h1 : (engAt k c P s1 s2 ins es (r - 1)).bad
    ·rfl
    ·have:=engAt_bad h1
     rw [show r - 1 + 1 = r by omega] at this
     rw [this,h1] at hb
     exact absurd hb (by simp)
  have ih:=run_form hf he r (by omega) hprev
  rw [engAt_succ hf he (fun i a h => h) ih hb (by omega)]
  exact ih.nextF hf (trsF hf ih).f
theorem run_good (hf : Fit k c P ins) (he : elemsB k.p es = true) : ∀ r : Nat,(r : Int) ≤ rounds c → (∀ i,i < 2 * totM c r → errAt es i = 0) → At (PG k c ins) k c r (engAt k c P s1 s2 ins es r) ∧ (engAt k c P s1 s2 ins es r).bad = false
 | 0,_,_ => ⟨engAt_zero hf (PG.pc hf) fun i a h => h,rfl⟩
 | r + 1,hr,hz => by
  obtain ⟨ih,hb⟩:=run_good hf he r (by omega) fun i hi => hz i (by rw [totM_succ]; omega)
  have hn:=mulsOf_n ih
  have hz' : ∀ j,j < (mulsOf (engAt k c P s1 s2 ins es r)).length → errAt (errsN es (2 * totM c r) (2 * nAt c r)) (2 * j) = 0 ∧ errAt (errsN es (2 * totM c r) (2 * nAt c r)) (2 * j + 1) = 0:=fun j hj => by
   rw [hn] at hj
   obtain ⟨e1,e2⟩:=errs_at (es:=es) hj
   rw [e1,e2]
   have:=totM_succ c r
   exact ⟨hz _ (by omega),hz _ (by omega)⟩
  rw [engAt_succ hf he (fun i a h => Good.form h) ih hb (by omega)]
  refine ⟨ih.nextG hf (trsF hf ih) hz', ?_⟩
  show (roundTo _ _ _ _ _).bad = false
  rw [Bool.eq_false_iff]
  intro h1
  rcases (roundTo_bad _ _ _ _ _).1 h1 with h2 | ⟨q,hq,h2⟩
  ·rw [hb] at h2; cases h2
  ·obtain ⟨u,v,hx⟩:=(trsF hf ih (a:=totM c r * trW k) (s2:=s2)).2 q hq
   obtain ⟨z1,z2⟩:=hz' q hq
   rw [z1,z2] at h2
   have h0 : elemB k.p 0 = true:=elemB_mk hf.fld (by omega) (by have:=(field_range hf.fld).1; omega)
   rw [(rBad_iff hf ih hq hx h0 h0).1 ⟨rfl,rfl⟩] at h2
   cases h2
theorem run_flag (hf : Fit k c P ins) (he : elemsB k.p es = true) (h0 : fsum k.p k.al ≠ 0) : ∀ r : Nat,(r : Int) ≤ rounds c → (engAt k c P s1 s2 ins es r).bad = false → At (PG k c ins) k c r (engAt k c P s1 s2 ins es r) ∧ ∀ i,i < 2 * totM c r → errAt es i = 0
 | 0,_,_ => ⟨engAt_zero hf (PG.pc hf) fun i a h => h,fun i hi => by rw [totM_zero] at hi; omega⟩
 | r + 1,hr,hb => by
  have hb' : (engAt k c P s1 s2 ins es r).bad = false:=by
   cases h1 : (engAt k c P s1 s2 ins es r).bad
   ·rfl
   ·rw [engAt_bad h1,h1] at hb; cases hb
  obtain ⟨ih,hz⟩:=run_flag hf he h0 r (by omega) hb'
  have hn:=mulsOf_n ih
  have es':=errsN_el he (2 * totM c r) (2 * nAt c r)
  rw [engAt_succ hf he (fun i a h => Good.form h) ih hb' (by omega)] at hb ⊢
  have hb : (roundTo (engAt k c P s1 s2 ins es r) (trsN k P s2 (totM c r * trW k) (nAt c r)) (errsN es (2 * totM c r) (2 * nAt c r)) (mulsOf (engAt k c P s1 s2 ins es r)) (mulsOf (engAt k c P s1 s2 ins es r)).length).bad = false:=hb
  have hz' : ∀ j,j < (mulsOf (engAt k c P s1 s2 ins es r)).length → errAt (errsN es (2 * totM c r) (2 * nAt c r)) (2 * j) = 0 ∧ errAt (errsN es (2 * totM c r) (2 * nAt c r)) (2 * j + 1) = 0:=fun j hj => by
   obtain ⟨u,v,hx⟩:=(trsF hf ih (a:=totM c r * trW k) (s2:=s2)).2 j hj
   refine (rBad_iff hf ih hj hx (errAt_el es' _) (errAt_el es' _)).2 h0 ?_
   cases h1 : rBad (engAt k c P s1 s2 ins es r) (trAt (trsN k P s2 (totM c r * trW k) (nAt c r)) j) (rD (engAt k c P s1 s2 ins es r) (trAt (trsN k P s2 (totM c r * trW k) (nAt c r)) j) (errAt (errsN es (2 * totM c r) (2 * nAt c r)) (2 * j)) ((mulsOf (engAt k c P s1 s2 ins es r)).getD j 0).toNat) (rE (engAt k c P s1 s2 ins es r) (trAt (trsN k P s2 (totM c r * trW k) (nAt c r)) j) (errAt (errsN es (2 * totM c r) (2 * nAt c r)) (2 * j + 1)) ((mulsOf (engAt k c P s1 s2 ins es r)).getD j 0).toNat) ((mulsOf (engAt k c P s1 s2 ins es r)).getD j 0).toNat
   ·rfl
   ·rw [(roundTo_bad _ _ _ _ _).2 (.inr ⟨j,hj,h1⟩)] at hb; cases hb
  refine ⟨ih.nextG hf (trsF hf ih) hz',fun i hi => ?_⟩
  rw [totM_succ] at hi
  by_cases h1 : i < 2 * totM c r
  ·exact hz i h1
  ·obtain ⟨j,hj⟩ : ∃ j,j = (i - 2 * totM c r) / 2:=⟨_,rfl⟩
   have hjn : j < nAt c r:=by omega
   obtain ⟨e1,e2⟩:=errs_at (es:=es) hjn
   obtain ⟨z1,z2⟩:=hz' j (by rw [hn]; exact hjn)
   rw [e1] at z1
   rw [e2] at z2
   by_cases h2 : i = 2 * (totM c r + j)
   ·rw [h2]; exact z1
   ·rw [show i = 2 * (totM c r + j) + 1 by omega]; exact z2
theorem At.okB {Q : Nat → AuM → Prop} {r : Nat} {e : EM} (hf : Fit k c P ins) (hQ : ∀ i a,Q i a → formB k a = true) (h : At Q k c r e) (hr : (r : Int) ≤ rounds c) : engOkB e = true:=by
 obtain ⟨h1,h2,h3,h4⟩:=h
 have hR:=rounds_bd c
 unfold engOkB
 rw [h1,h2,h3,hf.kb,arithB_yes hf.ok]
 simp only [Bool.and_eq_true,decide_eq_true_eq,beq_iff_eq,Bool.true_and,List.all_eq_true]
 refine ⟨⟨⟨hf.pp,h4.len⟩,inQ_yes (by omega) (by omega)⟩,fun a ha => ?_⟩
 obtain ⟨i,hi,rfl⟩:=List.getElem_of_mem ha
 have e1 : getA e.vs i = e.vs[i]:=by unfold getA; rw [List.getD_eq_getElem?_getD,List.getElem?_eq_getElem hi]; rfl
 unfold okV
 by_cases hd : depAt c i ≤ r
 ·have:=hQ i _ (h4.lo i (by rw [← h4.len]; exact hi) hd)
  rw [e1] at this
  rw [this,Bool.or_true]
 ·have:=h4.hi i (by rw [← h4.len]; exact hi) (by omega)
  rw [e1] at this
  rw [this,Bool.true_or]
theorem out_good (hf : Fit k c P ins) {r : Nat} {e : EM} (h : At (PG k c ins) k c r e) (hb : e.bad = false) (hr : (r : Int) = rounds c) : outB e = true ∧ outR e = evR c ins:=by
 have hok:=h.okB hf (fun i a h => Good.form h) (by omega)
 have hgood : ∀ z ∈ c.outs,Good k (getA e.vs z.toNat) (valAt c ins z.toNat):=fun z hz => by
  have:=hf.ok.outs z hz
  have hz' : z.toNat < c.st.length:=by
   simp [inB] at this
   omega
  exact h.post.lo _ hz' (by rw [hr]; exact dep_rounds hf.ok hz')
 have hB : outB e = true:=by
  unfold outB
  rw [hok,hb,h.ec]
  simp only [Bool.not_false,Bool.true_and,List.all_eq_true]
  intro z hz
  have g:=hgood z hz
  unfold out1
  rw [h.ek,form_nz g.form,g.sh,g.check _ g.elem]
  simp
 refine ⟨hB, ?_⟩
 unfold outR
 rw [hB,if_pos rfl,evR_yes ⟨hf.ok,hf.len,hf.el⟩,h.ec,h.ek]
 unfold evOut
 rw [List.take_length]
 refine List.map_congr_left fun z hz => ?_
 exact (hgood z hz).sh
noncomputable def runAt (k : KM) (c : AM) (P s : Nat) (ins es : List Int) : EM:=engAt k c P (keyN s 9 1) (keyN s 9 2) ins es (rounds c).toNat
theorem totM_all (hok : AOk c) : totM c (rounds c).toNat = muls c.st c.st.length:=tot_is hok (by have:=rounds_bd c; omega)
theorem run_right {s : Nat} (hf : Fit k c P ins) (he : elemsB k.p es = true) (hz : ∀ i,i < 2 * muls c.st c.st.length → errAt es i = 0) : outB (runAt k c P s ins es) = true ∧ outR (runAt k c P s ins es) = evR c ins:=by
 have hR:=rounds_bd c
 obtain ⟨h1,h2⟩:=run_good (s1:=keyN s 9 1) (s2:=keyN s 9 2) hf he (rounds c).toNat (by omega) (by rw [totM_all hf.ok]; exact hz)
 exact out_good hf h1 h2 (by omega)
theorem run_wrong {s : Nat} (hf : Fit k c P ins) (he : elemsB k.p es = true) (h0 : fsum k.p k.al ≠ 0) {i : Nat} (hi : i < 2 * muls c.st c.st.length) (hz : errAt es i ≠ 0) : outB (runAt k c P s ins es) = false:=by
 have hR:=rounds_bd c
 unfold outB
 cases hb : (runAt k c P s ins es).bad
 ·exact absurd ((run_flag (s1:=keyN s 9 1) (s2:=keyN s 9 2) hf he h0 (rounds c).toNat (by omega) hb).2 i (by rw [totM_all hf.ok]; exact hi)) hz
 ·simp
end
end Go.Proofs.Ytapljpcpmdlppaa
/-
 EngineRun of the program: what is known of its rounds,ahead of the walk.
-/
namespace Go.Proofs.Ytapljpcpmdlppaa
open Go.RowKit
set_option linter.unusedVariables false
set_option linter.unusedSimpArgs false
theorem newB_yes {k : KM} {c : AM} {P s : Nat} {ins : List Int} (hf : Fit k c P ins) (hs : s < 4294967296) : newB k c ins s 0 = true:=by
 unfold newB
 rw [hf.kb,arithB_yes hf.ok,hf.el,hf.len,hf.pp]
 have:=tape_yes hs (show 0 ≤ 1000000 by omega)
 simp at this
 simp [this]
theorem Fit.of {k : KM} {c : AM} {P : Nat} {ins : List Int} {s a : Int} (h : newB k c ins s a = true) (hP : k.p = P) : Fit k c P ins:=by
 obtain ⟨h1,h2,h3,h4,h5,_⟩:=newB_is h
 exact ⟨h1,h2,h3,hP,h4,h5⟩
theorem twf_new {k : KM} {P s a : Nat} (hk : keysB k = true) : twf (tripleNew k P s a):=by
 obtain ⟨_,_,n1,n5⟩:=keys_is hk
 refine ⟨⟨?_, ?_⟩,⟨?_, ?_⟩,⟨?_, ?_⟩⟩ <;> (unfold tripleNew authNew; simp only; rw [shareL_len,tapeL_len]; omega)
theorem twf_trs {k : KM} {P s a n : Nat} (hk : keysB k = true) : ∀ x ∈ trsN k P s a n,twf x:=by
 intro x hx
 unfold trsN at hx
 obtain ⟨i,_,rfl⟩:=List.mem_map.1 hx
 exact twf_new hk
theorem ewf_round {m : EM} {ts : List TrM} {es : List Int} (h : ewf m) (ht : ∀ x ∈ ts,twf x) (hop : m.op.length + 120 ≤ 1048576) (hrd : m.rd ≤ 60) : ewf (engRound m ts es) ∧ (engRound m ts es).op.length ≤ m.op.length + 120:=by
 unfold engRound
 split
 ·rename_i hm
  obtain ⟨h1,h2,h3,h4,h5,h6⟩:=mayB_is hm
  obtain ⟨f1,f2,f3,f4,f5⟩:=roundTo_fix m ts es (mulsOf m) (mulsOf m).length
  have hfew : (mulsOf m).length ≤ 60:=mulsAt_few _ _
  have hR:=h.rd
  refine ⟨⟨?_, ?_, ?_, ?_, ?_, ?_⟩, ?_⟩
  ·show kwf (roundTo m ts es (mulsOf m) (mulsOf m).length).k; rw [f1]; exact h.k
  ·show amwf (roundTo m ts es (mulsOf m) (mulsOf m).length).c; rw [f2]; exact h.c
  ·exact adds_awf (roundTo_awf h.vs ht _ h4) _
  ·show (addsTo _ _ _ _).length ≤ _; rw [addsTo_len,f4]; exact h.n
  ·show (roundTo m ts es (mulsOf m) (mulsOf m).length).op.length ≤ _; rw [f5]; omega
  ·show i64w (m.rd + 1)
   unfold i64w at hR ⊢
   omega
  ·show (roundTo m ts es (mulsOf m) (mulsOf m).length).op.length ≤ _; rw [f5]; omega
 ·exact ⟨h,by omega⟩
theorem ewf_new {k : KM} {c : AM} {P s : Nat} {ins : List Int} (hf : Fit k c P ins) (wk : kwf k) (wc : amwf c) : ewf (engNew k c P s ins):=by
 refine ⟨wk,wc,adds_awf (awf_initL hf.kb) _, ?_,by simp [engNew],by simp [engNew,i64w]⟩
 show (addsTo _ _ _ _).length ≤ _
 rw [addsTo_len,initL_len]
 exact wc.st
theorem ewf_run {k : KM} {c : AM} {P s1 s2 : Nat} {ins es : List Int} (hf : Fit k c P ins) (he : elemsB k.p es = true) (wk : kwf k) (wc : amwf c) : ∀ r : Nat,(r : Int) ≤ rounds c → (r = 0 ∨ (engAt k c P s1 s2 ins es (r - 1)).bad = false) → ewf (engAt k c P s1 s2 ins es r) ∧ (engAt k c P s1 s2 ins es r).op.length ≤ 120 * r
 | 0,_,_ => ⟨ewf_new hf wk wc,by simp [engAt,engNew]⟩
 | r + 1,hr,hb => by
  have hR:=rounds_bd c
  have hb : (engAt k c P s1 s2 ins es r).bad = false:=by
   rcases hb with hb | hb
   ·omega
   ·exact hb
  have hprev : r = 0 ∨ (engAt k c P s1 s2 ins es (r - 1)).bad = false:=by
   rcases Nat.eq_zero_or_pos r with h0 | h0
   ·exact .inl h0
   ·refine .inr ?_
    cases h1 : (engAt k c P s1 s2 ins es (r - 1)).bad
    ·rfl
    ·have:=engAt_bad h1
     rw [show r - 1 + 1 = r by omega] at this
     rw [this,h1] at hb
     exact absurd hb (by simp)
  obtain ⟨h1,h2⟩:=ewf_run hf he wk wc r (by omega) hprev
  have hat:=run_form (s1:=s1) (s2:=s2) hf he r (by omega) hprev
  obtain ⟨h3,h4⟩:=ewf_round (ts:=trsN k P s2 (totM c r * trW k) (nAt c r)) (es:=errsN es (2 * totM c r) (2 * nAt c r)) h1 (twf_trs hf.kb) (by omega) (by rw [hat.rd]; omega)
  exact ⟨h3,by rw [engAt]; omega⟩
theorem totM_bd {c : AM} (hok : AOk c) {r : Nat} (hr : (r : Int) ≤ rounds c) : totM c r ≤ 60:=by
 have h1 : totM c r ≤ totM c (rounds c).toNat:=totTo_le c (by omega)
 rw [totM_all hok] at h1
 have h2:=muls_le c.st c.st.length
 have:=hok.few
 omega
theorem trW_bd {k : KM} (hk : keysB k = true) : trW k ≤ 26:=by
 obtain ⟨_,_,n1,n5⟩:=keys_is hk
 unfold trW
 omega
theorem Ints.part {w : World} {b o n : Nat} {zs : List Int} (h : Ints w (some ⟨b,o,none⟩) n zs) {x m : Nat} (hk : x + m ≤ n) : Ints w (some ⟨b,o + x,none⟩) m ((zs.drop x).take m):=by
 have hl:=h.len
 refine ⟨by simp; omega,fun hp => ?_⟩
 obtain ⟨b',o',e,hb,hc⟩:=h.at_ (by omega)
 injection e with e
 injection e with e1 e2 _
 subst e1; subst e2
 refine ⟨b,o + x,rfl,hb,fun j hj => ?_⟩
 rw [show o + x + j = o + (x + j) by omega,hc (x + j) (by omega),List.getElem?_map,List.getElem?_take,if_pos (by omega),List.getElem?_drop,List.getElem?_eq_getElem (by omega),getI _ _ (by omega)]
 rfl
theorem Ints.none' {w : World} {A : Option Addr} : Ints w A 0 []:=⟨by simp,fun h => by omega⟩
end Go.Proofs.Ytapljpcpmdlppaa
