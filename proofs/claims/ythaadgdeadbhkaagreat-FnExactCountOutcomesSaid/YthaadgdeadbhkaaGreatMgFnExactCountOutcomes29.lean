/-
 The engine's run: all its rounds;what it gives when no opening is wrong,and when one is. No program.
-/
import Derived.Test.YthaadgdeadbhkaaGreatMgFnExactCountOutcomes26
import Derived.Test.YthaadgdeadbhkaaGreatMgFnExactCountOutcomes28
open Go.RowKit
set_option linter.unusedVariables false
set_option linter.unusedSimpArgs false
namespace Go.Proofs.YthaadgdeadbhkaaGreat
section
variable {k:KM} {c:AM} {P s1 s2:Nat} {ins es:List Int}
theorem mulsOf_at {Q:Nat→AuM→Prop} {r:Nat} {e:EM} (h:At Q k c r e):mulsOf e=mulsAt c ((r:Int)+1):=by
 unfold mulsOf;rw [h.ec,h.rd]
theorem mulsOf_n {Q:Nat→AuM→Prop} {r:Nat} {e:EM} (h:At Q k c r e):(mulsOf e).length=nAt c r:=by rw [mulsOf_at h];rfl
theorem engAt_zero (hf:Fit k c P ins) {Q:Nat→AuM→Prop} (hQ:PC k c Q) (hG:∀i a,PG k c ins i a→Q i a):At Q k c 0 (engAt k c P s1 s2 ins es 0) :=
 ⟨rfl,rfl,rfl,adds_post hQ hf.ok (init_pre hf hG)⟩
theorem trsF (hf:Fit k c P ins) {Q:Nat→AuM→Prop} {r a:Nat} {e:EM} (h:At Q k c r e):tripG k (trsN k P s2 a (nAt c r)) (mulsOf e).length:=by
 rw [mulsOf_n h];exact trsN_good hf.kb hf.pn
theorem engAt_may (hf:Fit k c P ins) (he:elemsB k.p es=true) {Q:Nat→AuM→Prop} (hQ:∀i a,Q i a→formB k a=true) {r:Nat} {e:EM} (h:At Q k c r e) (hb:e.bad=false) (hr:(r:Int)<rounds c):mayB e (trsN k P s2 (totM c r*trW k) (nAt c r)) (errsN es (2*totM c r) (2*nAt c r))=true :=
 h.may hf hQ hb hr (trsF hf h).f (errsN_el he _ _)
theorem WZ (hf:Fit k c P ins) (he:elemsB k.p es=true) {Q:Nat→AuM→Prop} (hQ:∀i a,Q i a→formB k a=true) {r:Nat} (h:At Q k c r (engAt k c P s1 s2 ins es r)) (hb:(engAt k c P s1 s2 ins es r).bad=false) (hr:(r:Int)<rounds c) :
  engAt k c P s1 s2 ins es (r+1)=XC (engAt k c P s1 s2 ins es r) (Zl (engAt k c P s1 s2 ins es r) (trsN k P s2 (totM c r*trW k) (nAt c r)) (errsN es (2*totM c r) (2*nAt c r)) (mulsOf (engAt k c P s1 s2 ins es r)) (mulsOf (engAt k c P s1 s2 ins es r)).length):=by
 rw [engAt,Yt,if_pos (engAt_may hf he hQ h hb hr)]
theorem Jb {r:Nat} (h:(engAt k c P s1 s2 ins es r).bad=true):engAt k c P s1 s2 ins es (r+1)=engAt k c P s1 s2 ins es r:=by
 rw [engAt,Yt,if_neg];unfold mayB;simp [h]
theorem Ul {r:Nat} (h:(engAt k c P s1 s2 ins es r).bad=true):∀d,engAt k c P s1 s2 ins es (r+d)=engAt k c P s1 s2 ins es r
 | 0=>rfl
 | d+1=>by
  have ih:=Ul h d;rw [← Nat.add_assoc,Jb (by rw [ih];exact h),ih]
theorem totM_succ (c:AM) (r:Nat):totM c (r+1)=totM c r+nAt c r:=totTo_next c r
theorem UR (c:AM):totM c 0=0:=by
 unfold totM;generalize (mdepth c).length=n;rfl
theorem Kh (hf:Fit k c P ins) (he:elemsB k.p es=true):∀r:Nat,(r:Int)≤rounds c→(r=0∨(engAt k c P s1 s2 ins es (r - 1)).bad=false)→At (PF k) k c r (engAt k c P s1 s2 ins es r)
 | 0,_,_=>engAt_zero hf PF.pc fun i a h=>Good.form h
 | r+1,hr,hb=>by
  have hb:(engAt k c P s1 s2 ins es r).bad=false:=by
   rcases hb with hb | hb
   ·omega
   ·exact hb
  have hprev:r=0∨(engAt k c P s1 s2 ins es (r - 1)).bad=false:=by
   rcases Nat.eq_zero_or_pos r with h0 | h0
   ·exact .inl h0
   ·refine .inr ?_
    cases h1:(engAt k c P s1 s2 ins es (r - 1)).bad
    ·rfl
    ·have:=Jb h1
     rw [show r - 1+1=r by omega] at this;rw [this,h1] at hb;exact absurd hb (by simp)
  have ih:=Kh hf he r (by omega) hprev;rw [WZ hf he (fun i a h=>h) ih hb (by omega)];exact ih.nextF hf (trsF hf ih).f
noncomputable def runAt (k:KM) (c:AM) (P s:Nat) (ins es:List Int):EM:=engAt k c P (keyN s 9 1) (keyN s 9 2) ins es (rounds c).toNat
theorem totM_all (hok:AOk c):totM c (rounds c).toNat=muls c.st c.st.length:=tot_is hok (by have:=Wl c;omega)
end
theorem OwnE.nil (w:World):OwnE w [] []:=⟨rfl,fun i c v h=>by simp at h⟩
theorem OwnE.typ {Ts:List TypeId} {w w':World} {cs:List CS} {vs:List Value} {S:Nat→Prop} (h:OwnE w cs vs) (hc:∀c∈cs,tyd Ts c) (k:Chg S w w') (hS:∀g,S g→g<w.heap.size→∃T us,Blk w g T us∧T∉Ts):OwnE w' cs vs :=
 ⟨h.1,fun i c v h1 h2=>by
  obtain ⟨F,ho⟩:=h.2 i c v h1 h2;refine ⟨F,c.kept ho fun g hg=>k.block g (c.lt ho g hg) fun hs => ?_⟩;obtain ⟨T,us,hB,hT⟩:=hS g hs (c.lt ho g hg)
  exact own_ty (hc c (List.mem_of_getElem? h1)) ho hB hT hg⟩
theorem OwnE.grow {w w':World} {cs:List CS} {vs:List Value} (h:OwnE w cs vs) (k:w.grownBy w' none):OwnE w' cs vs :=
 ⟨h.1,fun i c v h1 h2=>by
  obtain ⟨F,ho⟩:=h.2 i c v h1 h2
  exact ⟨F,c.kept ho fun g hg=>k.block g (c.lt ho g hg) (by simp)⟩⟩
theorem VT (x:TrM):∀c∈YA x,tyd [3] c:=by
 intro c hc;simp only [List.mem_append,List.mem_cons,List.not_mem_nil,or_false] at hc
 rcases hc with (rfl | rfl) | (rfl | rfl) | rfl | rfl <;> exact Xd (by simp)
theorem Wq (xs:List TrM):∀c∈xs.flatMap YA,tyd [3] c:=by
 intro c hc;obtain ⟨x,_,hx⟩:=List.mem_flatMap.1 hc;exact VT x c hx
theorem AggE.open {w:World} {m:TrM} {v:Value} (h:AggE w (YA m) v):∃A a B b C c D d E e F f,v=.agg #[.slice A m.a.sh.length a,.slice B m.a.mc.length b,.slice C m.b.sh.length c,.slice D m.b.mc.length d,.slice E m.c.sh.length e,.slice F m.c.mc.length f] ∧
  OwnE w (YA m) [.slice A m.a.sh.length a,.slice B m.a.mc.length b,.slice C m.b.sh.length c,.slice D m.b.mc.length d,.slice E m.c.sh.length e,.slice F m.c.mc.length f]:=by
 obtain ⟨A,a,B,b,C,c,D,d,E,e,F,f,hv,_⟩:=XX h.rd;obtain ⟨us,hv',hus⟩:=h;refine ⟨A,a,B,b,C,c,D,d,E,e,F,f,hv, ?_⟩;rw [hv] at hv';injection hv' with hv';have hv':us=[.slice A m.a.sh.length a,.slice B m.a.mc.length b,.slice C m.b.sh.length c,.slice D m.b.mc.length d,.slice E m.c.sh.length e,.slice F m.c.mc.length f]:=by have:=congrArg Array.toList hv';simpa using this.symm
 rw [← hv'];exact hus
def TL (lo:Nat) (ts:List TrM) (v:Value) (w:World):Prop:=∃vs,w.ownsRow lo 82 6 v ts.length vs∧OwnE w (ts.flatMap YA) vs
theorem TL.rd {lo:Nat} {ts:List TrM} {v:Value} {w:World} (h:TL lo ts v w):(Vk ts).rd w v:=by
 obtain ⟨vs,h1,h2⟩:=h;obtain ⟨A,c,rfl,hc,hm,hr⟩:=own_rd2 h1;exact lst_mk (s:=6) (fun _=>rfl) rfl hc hm h2.rd hr
theorem Um {w w':World} {b s n:Nat} {e:TypeId} {v:Value} {vs:List Value} {S:Nat→Prop} (h:w.ownsRow b e s v n vs) (k:Chg S w w') (hS:∀g,S g→g<w.heap.size→∃T us,Blk w g T us∧T≠e):w'.ownsRow b e s v n vs:=by
 refine Chg.own h k fun y hy hs => ?_
 rcases h.2 with ⟨h1,_⟩ | ⟨g1,cap,cur,hv,_,hg,_⟩
 ·rw [h1] at hy;cases hy
 ·rw [hv] at hy
  have:g1=y:=by simpa [Value.ownBlock] using hy
  subst this;obtain ⟨T,us,B,hT⟩:=hS g1 hs (Array.getElem?_eq_some_iff.1 hg).1;unfold Blk at B;rw [B] at hg;injection hg with hg;injection hg with _ h2 _;exact hT h2
theorem TL.typ {lo:Nat} {ts:List TrM} {v:Value} {w w':World} {S:Nat→Prop} (h:TL lo ts v w) (k:Chg S w w') (hS:∀g,S g→g<w.heap.size→∃T us,Blk w g T us∧T≠82∧T≠3):TL lo ts v w':=by
 obtain ⟨vs,h1,h2⟩:=h;refine ⟨vs,Um h1 k fun g hg hl => ?_,h2.typ (Wq ts) k fun g hg hl => ?_⟩
 ·obtain ⟨T,us,B,e,_⟩:=hS g hg hl;exact ⟨T,us,B,e⟩
 ·obtain ⟨T,us,B,_,e⟩:=hS g hg hl;exact ⟨T,us,B,by simpa using e⟩
theorem TL.grow {lo:Nat} {ts:List TrM} {v:Value} {w w':World} (h:TL lo ts v w) (k:w.grownBy w' none):TL lo ts v w':=by
 obtain ⟨vs,h1,h2⟩:=h;exact ⟨vs,Zj h1 k,h2.grow k⟩
theorem XA {w:World} {b s n:Nat} {e:TypeId} {v:Value} {vs:List Value} (h:w.ownsRow b e s v n vs) {g:Nat} (hg:v.ownBlock=some g):∃cur,Blk w g e cur∧b≤g:=by
 rcases h.2 with ⟨e1,_⟩ | ⟨g1,cap,cur,hv,hb,hg1,_⟩
 ·rw [e1] at hg;cases hg
 ·rw [hv] at hg
  have:g1=g:=by simpa [Value.ownBlock] using hg
  subst this;exact ⟨_,hg1,hb⟩
theorem TL.push {lo:Nat} {ts:List TrM} {x:TrM} {v v':Value} {w w':World} {vs us:List Value} (h1:w.ownsRow lo 82 6 v ts.length vs) (h2:OwnE w (ts.flatMap YA) vs) (h3:OwnE w (YA x) us) (k1:w'.ownsRow lo 82 6 v' (ts.length+1) (vs ++ us)) (k2:Chg (fun g=>v.ownBlock=some g) w w'):TL lo (ts ++ [x]) v' w':=by
 refine ⟨vs ++ us,by rw [List.length_append];exact k1, ?_⟩;rw [List.flatMap_append];refine OwnE.append (OwnE.typ h2 (Wq ts) k2 ?_) (OwnE.typ (by simpa using h3) (by intro c hc;exact VT x c (by simpa using hc)) k2 ?_)
 all_goals
  intro g hg hl;obtain ⟨cur,hb,_⟩:=XA h1 hg;exact ⟨_,_,hb,by decide⟩
theorem newB_yes {k:KM} {c:AM} {P s:Nat} {ins:List Int} (hf:Fit k c P ins) (hs:s<4294967296):newB k c ins s 0=true:=by
 unfold newB;rw [hf.kb,Yq hf.ok,hf.el,hf.len,hf.pp];have:=Yw hs (show 0≤1000000 by omega);simp at this;simp [this]
theorem Fit.of {k:KM} {c:AM} {P:Nat} {ins:List Int} {s a:Int} (h:newB k c ins s a=true) (hP:k.p=P):Fit k c P ins:=by
 obtain ⟨h1,h2,h3,h4,h5,_⟩:=Qn h;exact ⟨h1,h2,h3,hP,h4,h5⟩
theorem twf_new {k:KM} {P s a:Nat} (hk:keysB k=true):twf (Ys k P s a):=by
 obtain ⟨_,_,n1,n5⟩:=Yc hk;refine ⟨⟨?_, ?_⟩,⟨?_, ?_⟩,⟨?_, ?_⟩⟩ <;> (unfold Ys ZL;simp only;rw [Qd,Kx];omega)
theorem Qo {k:KM} {P s a n:Nat} (hk:keysB k=true):∀x∈trsN k P s a n,twf x:=by
 intro x hx;unfold trsN at hx;obtain ⟨i,_,rfl⟩:=List.mem_map.1 hx;exact twf_new hk
theorem ewf_round {m:EM} {ts:List TrM} {es:List Int} (h:ewf m) (ht:∀x∈ts,twf x) (hop:m.op.length+120≤1048576) (hrd:m.rd≤60):ewf (Yt m ts es)∧(Yt m ts es).op.length≤m.op.length+120:=by
 unfold Yt
 split
 ·rename_i hm
  obtain ⟨h1,h2,h3,h4,h5,h6⟩:=Vy hm;obtain ⟨f1,f2,f3,f4,f5⟩:=YC m ts es (mulsOf m) (mulsOf m).length;have hfew:(mulsOf m).length≤60:=VP _ _;have hR:=h.rd;refine ⟨⟨?_, ?_, ?_, ?_, ?_, ?_⟩, ?_⟩
  ·show kwf (Zl m ts es (mulsOf m) (mulsOf m).length).k;rw [f1];exact h.k
  ·show amwf (Zl m ts es (mulsOf m) (mulsOf m).length).c;rw [f2];exact h.c
  ·exact UL (Vl h.vs ht _ h4) _
  ·show (addsTo _ _ _ _).length≤_;rw [WS,f4];exact h.n
  ·show (Zl m ts es (mulsOf m) (mulsOf m).length).op.length≤_;rw [f5];omega
  ·show i64w (m.rd+1)
   unfold i64w at hR ⊢;omega
  ·show (Zl m ts es (mulsOf m) (mulsOf m).length).op.length≤_;rw [f5];omega
 ·exact ⟨h,by omega⟩
theorem ewf_new {k:KM} {c:AM} {P s:Nat} {ins:List Int} (hf:Fit k c P ins) (wk:kwf k) (wc:amwf c):ewf (engNew k c P s ins):=by
 refine ⟨wk,wc,UL (Ja hf.kb) _, ?_,by simp [engNew],by simp [engNew,i64w]⟩
 show (addsTo _ _ _ _).length≤_
 rw [WS,Xp];exact wc.st
theorem ewf_run {k:KM} {c:AM} {P s1 s2:Nat} {ins es:List Int} (hf:Fit k c P ins) (he:elemsB k.p es=true) (wk:kwf k) (wc:amwf c):∀r:Nat,(r:Int)≤rounds c→(r=0∨(engAt k c P s1 s2 ins es (r - 1)).bad=false)→ewf (engAt k c P s1 s2 ins es r)∧(engAt k c P s1 s2 ins es r).op.length≤120*r
 | 0,_,_=>⟨ewf_new hf wk wc,by simp [engAt,engNew]⟩
 | r+1,hr,hb=>by
  have hR:=Wl c
  have hb:(engAt k c P s1 s2 ins es r).bad=false:=by
   rcases hb with hb | hb
   ·omega
   ·exact hb
  have hprev:r=0∨(engAt k c P s1 s2 ins es (r - 1)).bad=false:=by
   rcases Nat.eq_zero_or_pos r with h0 | h0
   ·exact .inl h0
   ·refine .inr ?_
    cases h1:(engAt k c P s1 s2 ins es (r - 1)).bad
    ·rfl
    ·have:=Jb h1
     rw [show r - 1+1=r by omega] at this;rw [this,h1] at hb;exact absurd hb (by simp)
  obtain ⟨h1,h2⟩:=ewf_run hf he wk wc r (by omega) hprev;have hat:=Kh (s1:=s1) (s2:=s2) hf he r (by omega) hprev;obtain ⟨h3,h4⟩:=ewf_round (ts:=trsN k P s2 (totM c r*trW k) (nAt c r)) (es:=errsN es (2*totM c r) (2*nAt c r)) h1 (Qo hf.kb) (by omega) (by rw [hat.rd];omega);exact ⟨h3,by rw [engAt];omega⟩
theorem JA {c:AM} (hok:AOk c) {r:Nat} (hr:(r:Int)≤rounds c):totM c r≤60:=by
 have h1:totM c r≤totM c (rounds c).toNat:=totTo_le c (by omega);rw [totM_all hok] at h1;have h2:=muls_le c.st c.st.length;have:=hok.few;omega
theorem trW_bd {k:KM} (hk:keysB k=true):trW k≤26:=by
 obtain ⟨_,_,n1,n5⟩:=Yc hk;unfold trW;omega
theorem Ints.part {w:World} {b o n:Nat} {zs:List Int} (h:Ints w (some ⟨b,o,none⟩) n zs) {x m:Nat} (hk:x+m≤n):Ints w (some ⟨b,o+x,none⟩) m ((zs.drop x).take m):=by
 have hl:=h.len;refine ⟨by simp;omega,fun hp => ?_⟩;obtain ⟨b',o',e,hb,hc⟩:=h.at_ (by omega);injection e with e;injection e with e1 e2 _;subst e1;subst e2;refine ⟨b,o+x,rfl,hb,fun j hj => ?_⟩;rw [show o+x+j=o+(x+j) by omega,hc (x+j) (by omega),List.getElem?_map,List.getElem?_take,if_pos (by omega),List.getElem?_drop,List.getElem?_eq_getElem (by omega),getI _ _ (by omega)];rfl
theorem Ints.none' {w:World} {A:Option Addr}:Ints w A 0 []:=⟨by simp,fun h=>by omega⟩
end Go.Proofs.YthaadgdeadbhkaaGreat
