/-
 Rows whose elements hold rows: what they read as (RdC),and rows of the call's own whose inner rows are its own,each in a block of its own (OwnC). Changes that touch some blocks alone (Chg). append of a slice.
-/
import Derived.Test.YthaadgdeadbhkaaGreatMgFnExactCountOutcomes1
open Go.RowKit
set_option linter.unusedVariables false
set_option linter.unusedSimpArgs false
namespace Go.Proofs.YthaadgdeadbhkaaGreat
structure Chg (S:Nat→Prop) (w w':World):Prop where
 os:w'.os=w.os
 tape:w'.tape=w.tape
 output:w'.output=w.output
 size:w.heap.size≤w'.heap.size
 block:∀i,i<w.heap.size→¬S i→w'.heap[i]?=w.heap[i]?
theorem Chg.refl (S:Nat→Prop) (w:World):Chg S w w:=⟨rfl,rfl,rfl,Nat.le_refl _,fun _ _ _=>rfl⟩
theorem Chg.trans {S:Nat→Prop} {a b c:World} (h:Chg S a b) (k:Chg S b c):Chg S a c :=
 ⟨k.os.trans h.os,k.tape.trans h.tape,k.output.trans h.output,Nat.le_trans h.size k.size,fun i hi hs=>(k.block i (Nat.lt_of_lt_of_le hi h.size) hs).trans (h.block i hi hs)⟩
theorem Chg.of {S:Nat→Prop} {a b:World} {r:Option Nat} (h:a.grownBy b r) (hr:∀g,r=some g→S g):Chg S a b :=
 ⟨h.os,h.tape,h.output,h.size,fun i hi hs=>h.block i hi fun e=>hs (hr i e.symm)⟩
theorem Chg.mono {S T:Nat→Prop} {a b:World} (h:Chg S a b) (hst:∀i,S i→T i):Chg T a b:=⟨h.os,h.tape,h.output,h.size,fun i hi ht=>h.block i hi fun hs=>ht (hst i hs)⟩
theorem Chg.new {S:Nat→Prop} {a b c:World} (h:a.grownBy b none) (k:Chg S b c) (hs:∀i,S i→a.heap.size≤i):a.grownBy c none :=
 ⟨k.os.trans h.os,k.tape.trans h.tape,k.output.trans h.output,Nat.le_trans h.size k.size,fun i hi _=>(k.block i (Nat.lt_of_lt_of_le hi h.size) fun hS=>by have:=hs i hS;omega).trans (h.block i hi (by simp))⟩
theorem Chg.own {S:Nat→Prop} {w w':World} {base:Nat} {e:TypeId} {sz n:Nat} {v:Value} {xs:List Value} (h:w.ownsRow base e sz v n xs) (k:Chg S w w') (hs:∀g,v.ownBlock=some g→¬S g):w'.ownsRow base e sz v n xs:=by
 refine ⟨h.1, ?_⟩
 rcases h.2 with h2 | ⟨g,cap,cur,hv,hb,hg,r⟩
 ·exact .inl h2
 ·refine .inr ⟨g,cap,cur,hv,hb, ?_,r⟩
  have hlt:g<w.heap.size:=(Array.getElem?_eq_some_iff.1 hg).1;rw [k.block g hlt (hs g (by rw [hv];rfl))];exact hg
theorem Chg.rd {S:Nat→Prop} {w w':World} {sz n:Nat} {A:Option Addr} {xs:List Value} (h:Rd w sz A n xs) (k:Chg S w w') (hs:∀a,A=some a→¬S a.block):Rd w' sz A n xs:=by
 refine ⟨h.1,fun hn => ?_⟩;obtain ⟨b,o,rfl,hb,hc⟩:=h.2 hn;refine ⟨b,o,rfl,Nat.lt_of_lt_of_le hb k.size,fun j hj => ?_⟩;exact (World.cell?_of_block (a:=⟨b,o+j,none⟩) (k.block b hb (hs _ rfl))).trans (hc j hj)
inductive CD where
 | num:Int→CD
 | row:TypeId→Nat→Nat→List Value→CD
def CD.rd (w:World):CD→Value→Prop
 | .num z,v=>v=.int .i64 z
 | .row _ s n cs,v=>∃A c,v=.slice A n c∧n≤c∧c≤maxLen∧Rd w s A n cs
theorem CD.rd_grow {w w':World} {cd:CD} {v:Value} (h:cd.rd w v) (hg:w.grownBy w' none):cd.rd w' v:=by
 cases cd with
 | num z=>exact h
 | row e s n cs=>obtain ⟨A,c,hv,h1,h2,h3⟩:=h;exact ⟨A,c,hv,h1,h2,h3.grow hg⟩
def RdC (w:World) (sz:Nat) (A:Option Addr) (n:Nat) (cds:List CD):Prop :=
 ∃vs:List Value,vs.length=cds.length∧(∀(i:Nat) (cd:CD) (v:Value),cds[i]?=some cd→vs[i]?=some v→cd.rd w v)∧Rd w sz A n vs
theorem RdC.grow {w w':World} {sz n:Nat} {A:Option Addr} {cds:List CD} (h:RdC w sz A n cds) (hg:w.grownBy w' none):RdC w' sz A n cds:=by
 obtain ⟨vs,h1,h2,h3⟩:=h;exact ⟨vs,h1,fun i cd v hc hv=>CD.rd_grow (h2 i cd v hc hv) hg,h3.grow hg⟩
theorem RdC.len {w:World} {sz n:Nat} {A:Option Addr} {cds:List CD} (h:RdC w sz A n cds):cds.length=n*sz:=by
 obtain ⟨vs,h1,h2,h3⟩:=h;rw [← h1,h3.1]
theorem RdC.at_ {w:World} {sz n:Nat} {A:Option Addr} {cds:List CD} (h:RdC w sz A n cds) {i:Nat} (hi:i<n*sz) :
  ∃(b o:Nat) (v:Value) (cd:CD),A=some ⟨b,o,none⟩∧b<w.heap.size∧cds[i]?=some cd∧w.cell? ⟨b,o+i,none⟩=some v∧cd.rd w v:=by
 have hl:=h.len;obtain ⟨vs,h1,h2,h3⟩:=h
 have hn:0<n:=by
  rcases Nat.eq_zero_or_pos n with h0 | h0
  ·subst h0;simp at hi
  ·exact h0
 obtain ⟨b,o,rfl,hb,hc⟩:=h3.2 hn;have hiv:i<vs.length:=by omega
 have hic:i<cds.length:=by omega
 have e1:vs[i]?=some vs[i]:=List.getElem?_eq_getElem hiv;have e2:cds[i]?=some cds[i]:=List.getElem?_eq_getElem hic;exact ⟨b,o,vs[i],cds[i],rfl,hb,e2,by rw [hc i hi,e1],h2 i _ _ e2 e1⟩
def CD.own (w:World) (lo:Nat):CD→Value→Prop
 | .num z,v=>v=.int .i64 z
 | .row e s n cs,v=>w.ownsRow lo e s v n cs
def apartV (u v:Value):Prop:=∀g,u.ownBlock=some g→v.ownBlock≠some g
theorem apartV.symm {u v:Value} (h:apartV u v):apartV v u:=fun g hv hu=>h g hu hv
structure OwnC (w:World) (lo:Nat) (e:TypeId) (sz:Nat) (v:Value) (n:Nat) (cds:List CD) (vs:List Value):Prop where
 len:vs.length=cds.length
 outer:w.ownsRow lo e sz v n vs
 inner:∀(i:Nat) (cd:CD) (u:Value),cds[i]?=some cd→vs[i]?=some u→cd.own w lo u
 apart:∀(i j:Nat) (u x:Value),i<j→vs[i]?=some u→vs[j]?=some x→apartV u x
 off:∀u∈vs,apartV v u
theorem CD.own_kept {S:Nat→Prop} {w w':World} {lo:Nat} {cd:CD} {u:Value} (h:cd.own w lo u) (k:Chg S w w') (hs:∀g,u.ownBlock=some g→¬S g):cd.own w' lo u:=by
 cases cd with
 | num z=>exact h
 | row e s n cs=>exact Chg.own h k hs
theorem CD.own_lt {w:World} {lo:Nat} {cd:CD} {u:Value} (h:cd.own w lo u) {g:Nat} (hg:u.ownBlock=some g):lo≤g∧g<w.heap.size:=by
 cases cd with
 | num z=>unfold CD.own at h;subst h;simp [Value.ownBlock] at hg
 | row e s n cs=>exact World.ownsRow.lt h g hg
section
variable {w w':World} {lo:Nat} {e:TypeId} {sz n:Nat} {v:Value} {cds:List CD} {vs:List Value}
theorem OwnC.blocks (h:OwnC w lo e sz v n cds vs):∀u∈vs,∀g,u.ownBlock=some g→lo≤g∧g<w.heap.size:=by
 intro u hu g hg;obtain ⟨i,hi⟩:=List.mem_iff_getElem?.1 hu;have hl:=(List.getElem?_eq_some_iff.1 hi).1;have hc:cds[i]?=some (cds[i]'(by rw [← h.len];exact hl)):=List.getElem?_eq_getElem _;exact CD.own_lt (h.inner i _ u hc hi) hg
theorem OwnC.kept {S:Nat→Prop} (h:OwnC w lo e sz v n cds vs) (k:Chg S w w') (hs:∀g,lo≤g→g<w.heap.size→¬S g):OwnC w' lo e sz v n cds vs :=
 ⟨h.len,Chg.own h.outer k fun g hg=>hs g (h.outer.lt g hg).1 (h.outer.lt g hg).2,fun i cd u hc hu=>CD.own_kept (h.inner i cd u hc hu) k fun g hg=>hs g (h.blocks u (List.mem_of_getElem? hu) g hg).1 (h.blocks u (List.mem_of_getElem? hu) g hg).2,h.apart,h.off⟩
theorem OwnC.grow (h:OwnC w lo e sz v n cds vs) (hg:w.grownBy w' none):OwnC w' lo e sz v n cds vs:=h.kept (Chg.of (S:=fun _=>False) hg fun g hg=>by simp at hg) fun _ _ _ h=>h
theorem OwnC.set_ {G c k:Nat} {cd:CD} {u:Value} (h:OwnC w lo e sz (.slice (some ⟨G,0,none⟩) n c) n cds vs) (hk:k<cds.length) (hu:cd.own w lo u) (hoff:apartV (.slice (some ⟨G,0,none⟩) n c) u) (hap:∀x∈vs,apartV x u) :
  OwnC (w.setCell ⟨G,k,none⟩ u) lo e sz (.slice (some ⟨G,0,none⟩) n c) n (cds.set k cd) (vs.set k u)∧w.grownBy (w.setCell ⟨G,k,none⟩ u) (some G):=by
 have hst:=h.outer.stored k u;have hkv:k<vs.length:=by rw [h.len];exact hk
 have hch:Chg (fun g=>g=G) w (w.setCell ⟨G,k,none⟩ u):=Chg.of hst.2 fun g hg=>by injection hg with hg;exact hg.symm
 refine ⟨⟨by simp [h.len],hst.1,fun i cd' u' hc hv => ?_,fun i j a b hij ha hb => ?_,fun a ha => ?_⟩,hst.2⟩
 ·rw [List.getElem?_set] at hc hv
  by_cases ek:k=i
  ·subst ek
   rw [if_pos rfl,if_pos hk] at hc;rw [if_pos rfl,if_pos hkv] at hv;injection hc with hc;injection hv with hv;subst hc;subst hv;exact CD.own_kept hu hch fun g hg e=>hoff g (by rw [e];rfl) hg
  ·rw [if_neg ek] at hc hv
   exact CD.own_kept (h.inner i cd' u' hc hv) hch fun g hg e=>h.off u' (List.mem_of_getElem? hv) g (by rw [e];rfl) hg
 ·rw [List.getElem?_set] at ha hb
  by_cases e1:k=i
  ·subst e1
   rw [if_pos rfl,if_pos hkv] at ha;rw [if_neg (by omega)] at hb;injection ha with ha;subst ha;exact (hap b (List.mem_of_getElem? hb)).symm
  ·rw [if_neg e1] at ha
   by_cases e2:k=j
   ·subst e2
    rw [if_pos rfl,if_pos hkv] at hb;injection hb with hb;subst hb;exact hap a (List.mem_of_getElem? ha)
   ·rw [if_neg e2] at hb
    exact h.apart i j a b hij ha hb
 ·rcases List.mem_or_eq_of_mem_set ha with h1 | h1
  ·exact h.off a h1
  ·rw [h1];exact hoff
end
section
variable {P:Program}
theorem Xs (w:World) (base:Nat) (t ty e:TypeId) (i:TypeInfo) (size:Nat) (ht:P.underlying t=some (.slice e)) (hi:P.info? e=some i)
  (v:Value) (n:Nat) (xs:List Value) (hown:w.ownsRow base e size v n xs) (c:Nat):(Builtin.append_ #[t,t] ty #[v,.slice none 0 c]).run P w=.ok v w:=by
 rcases hown.2 with ⟨rfl,rfl⟩ | ⟨g,cap,cur,rfl,_,_,hnc,_⟩
 ·simp [Builtin.append_,run_underlying ht,sizeOf,typeInfo,hi,Builtin.lenOf,Builtin.firstCells]
 ·simp [Builtin.append_,run_underlying ht,sizeOf,typeInfo,hi,Builtin.lenOf,Builtin.firstCells,hnc,storeCells]
theorem XR {ops:Array Oper} {rest:List Oper} {o:Oper} {a:Act} {Q:Exit→Act→World→Prop} (wr:World) {t e:TypeId} {z:Value} {size bytes:Nat} (E:El P t e z size bytes) (hgd:o.guard=none) (s x:Operand)
  (ho:o.op=.call { callee:=.builtin .append,args:=#[s,x],argTypes:=#[t,t] })
  (base:Nat) (v:Value) (n:Nat) (xs:List Value) (hown:wr.ownsRow base e size v n xs) (hs:a.eval s=v) (A:Option Addr) (m c:Nat) (ys:List Value) (hx:a.eval x=.slice A m c) (hr:Rd wr size A m ys) (h1:∀u∈ys,u.oneCell'=true)
  (hn:n+m≤maxLen) (hb:(n+m)*bytes≤140737488355328) (hbase:base≤wr.heap.size)
  (h:∀v' w',w'.ownsRow base e size v' (n+m) (xs ++ ys)→wr.grownBy w' v.ownBlock→wpList P ops Q rest (a.put o.dst v') w') :
  wpList P ops Q (o :: rest) a wr:=by
 obtain ⟨i,hi,hz0,hz1,hz2⟩:=info_parts E.hi
 have key:∀ad:Addr,A=some ad→(∀j u,ys[j]?=some u→wr.cell? (ad.add j)=some u)→wpList P ops Q (o :: rest) a wr:=fun ad hA hc =>
  wpList_append_own wr hgd s x t ho base e i z size bytes E.ht hi hz0 hz1 hz2 E.hz E.hs v n xs hs hown ad m c ys (by rw [hx,hA]) hr.1 hc h1 hn hb hbase fun v' w' k1 k2 _=>h v' w' k1 k2
 rcases Nat.eq_zero_or_pos m with h0 | h0
 ·subst h0
  have hys:ys=[]:=List.eq_nil_of_length_eq_zero (by simpa using hr.1);subst hys
  cases A with
  | some ad=>exact key ad rfl fun j u hu=>by simp at hu
  | none =>
   refine wpList_plain hgd fun _ hK => ?_;have hrun:=Xs (P:=P) wr base t o.type e i size E.ht hi v n xs hown c;unfold Oper.wp execOp;simp only [ho,resolve,invoke,builtin,Sem.run_bind,Sem.run_pure,Result.andThen_ok,List.map_toArray,List.map_cons,List.map_nil,hs,hx,hrun];exact hK _ _ (h v wr (by simpa using hown) (gbR _ _))
 ·obtain ⟨b,off,hA,hb',hc⟩:=hr.2 h0
  refine key ⟨b,off,none⟩ hA fun j u hu => ?_;have hadd:(⟨b,off,none⟩:Addr).add j=⟨b,off+j,none⟩:=by unfold Addr.add;split <;> simp_all
  have hj:j<m*size:=by rw [← hr.1];exact (List.getElem?_eq_some_iff.1 hu).1
  rw [hadd,hc j hj,hu]
end
structure GInv4 (ops:Array Oper) (T:List Fact) (W:World) (a0:Act) (touch:List (Nat × Nat)) (listed:Array Bool) (a:Act) (w:World):Prop where
 g:Chg (fun b=>∃s,(s,b)∈touch) W w
 pre:∀b,b<W.heap.size→(∀s,(s,b)∈touch→listed.getD s false=false)→w.heap[b]?=W.heap[b]?
 sz:listed.size=ops.size
 tz:a.tmps.size=a0.tmps.size
 df:a.defers=a0.defers
 out:∀t,t∉dsts ops→a.tmps[t]?=a0.tmps[t]?
 facts:∀k o,ops[k]?=some o→listed.getD k false=true→(fAt T k).at_ (fun d=>a.tmps.getD d undef) w
 closed:∀k o,ops[k]?=some o→listed.getD k false=true→∀e∈bindE o,listed.getD e.on false=true
section
variable {P:Program} {ops:Array Oper} {T:List Fact} {W:World} {a0:Act} {touch:List (Nat × Nat)} {Q:Exit→Act→World→Prop}
theorem GInv4.step {listed:Array Bool} {a:Act} {w:World} (K:RegOk ops T) (hsz:∀d∈dsts ops,d<a0.tmps.size) (hst:Zw T) (h:GInv4 ops T W a0 touch listed a w) {i:Nat} {o:Oper} (hi:ops[i]?=some o)
  (hun:listed.getD i false=false) (hwait:∀e∈bindE o,listed.getD e.on false=true) {v:Value} {w':World} (hv:(fAt T i).at_ (upd (fun d=>a.tmps.getD d undef) o.dst v) w')
  (hg:w.grownBy w' none∨(Chg (fun b=>W.heap.size≤b∨(i,b)∈touch) w w'∧keeps (fun d=>a.tmps.getD d undef) w w' i T 0)):GInv4 ops T W a0 touch (listed.setIfInBounds i true) (a.put o.dst v) w':=by
 have hdlt:∀d,o.dst=some d→d<a.tmps.size:=fun d hd=>by rw [h.tz];exact hsz d (YM hi hd)
 have hil:i<listed.size:=by rw [h.sz];exact (Array.getElem?_eq_some_iff.1 hi).1
 have lset:∀k,k≠i→(listed.setIfInBounds i true).getD k false=listed.getD k false:=fun k hk=>by
  simp only [Array.getD_eq_getD_getElem?,Array.getElem?_setIfInBounds,Ne.symm hk,if_false]
 have lold:∀k,listed.getD k false=true→(listed.setIfInBounds i true).getD k false=true:=fun k hk=>by
  by_cases e:k=i
  ·subst e;simp [hil]
  ·rw [lset k e];exact hk
 refine ⟨?_,fun b hbW hb => ?_,by simp [h.sz], ?_, ?_,fun t ht => ?_,fun k ok hk hl => ?_,fun k ok hk hl e he => ?_⟩
 ·rcases hg with hg | ⟨hg,_⟩
  ·exact h.g.trans (Chg.of hg fun g hg'=>by simp at hg')
  ·refine ⟨hg.os.trans h.g.os,hg.tape.trans h.g.tape,hg.output.trans h.g.output,Nat.le_trans h.g.size hg.size,fun b hb hs => ?_⟩
   rw [hg.block b (Nat.lt_of_lt_of_le hb h.g.size) fun hs' => ?_,h.g.block b hb hs]
   rcases hs' with h1 | h1
   ·omega
   ·exact hs ⟨i,h1⟩
 ·have hb':∀s,(s,b)∈touch→listed.getD s false=false:=fun s hs=>by
   have h1:=hb s hs
   cases hl:listed.getD s false with
   | false=>rfl
   | true=>rw [lold s hl] at h1;cases h1
  have hib:(i,b)∉touch:=fun hi'=>by have h1:=hb i hi';simp [hil] at h1
  have h0:=h.pre b hbW hb';have hbw:b<w.heap.size:=Nat.lt_of_lt_of_le hbW h.g.size
  rcases hg with hg | ⟨hg,_⟩
  ·exact (hg.block b hbw (by simp)).trans h0
  ·refine (hg.block b hbw fun hs' => ?_).trans h0
   rcases hs' with h1 | h1
   ·omega
   ·exact hib h1
 ·rw [← h.tz];cases o.dst <;> simp [Act.put]
 ·rw [← h.df];cases o.dst <;> rfl
 ·rw [← h.out t ht]
  cases hd:o.dst with
  | none=>rfl
  | some d =>
   have:d≠t:=fun e=>ht (e ▸ YM hi hd);simp [Act.put,this]
 ·have hf:(fun d=>(a.put o.dst v).tmps.getD d undef)=upd (fun d=>a.tmps.getD d undef) o.dst v:=by
   funext t;exact Vd a o.dst v t hdlt
  rw [hf]
  by_cases hik:k=i
  ·subst hik
   exact hv
  ·rw [lset k hik] at hl
   have hold:=h.facts k ok hk hl
   have hne:∀t∈(fAt T k).ts,o.dst≠some t:=fun t ht hd=>by
    rcases K.sup k ok hk t ht with h1 | ⟨e,he,o',ho',hd'⟩
    ·exact Ym K.nodup (l:=ops.toList) (i:=k) (j:=i) (by simpa using hk) (by simpa using hi) hik h1 hd
    ·have h2:=h.closed k ok hk hl e he
     have h3:e.on≠i:=fun x=>by rw [x,hun] at h2;cases h2
     exact Ym K.nodup (l:=ops.toList) (i:=e.on) (j:=i) (by simpa using ho') (by simpa using hi) h3 hd' hd
   have hmap:(fAt T k).ts.map (upd (fun d=>a.tmps.getD d undef) o.dst v)=(fAt T k).ts.map (fun d=>a.tmps.getD d undef):=List.map_congr_left fun t ht=>Xi _ _ _ _ (hne t ht);unfold Fact.at_;rw [hmap]
   rcases hg with hg | ⟨_,hk2⟩
   ·exact Xr hst k _ _ _ hold hg
   ·cases hT:T[k]? with
    | none=>unfold fAt;rw [hT];trivial
    | some F =>
     have e:fAt T k=F:=by unfold fAt;rw [hT];rfl
     rw [e] at hold ⊢;exact VB hk2 hT (by omega) hold
 ·by_cases hik:k=i
  ·subst hik
   obtain rfl:ok=o:=by rw [hi] at hk;injection hk with hk;exact hk.symm
   exact lold _ (hwait e he)
  ·rw [lset k hik] at hl
   exact lold _ (h.closed k ok hk hl e he)
theorem GInv4.is {listed:Array Bool} {a:Act} {w:World} (h:GInv4 ops T W a0 touch listed a w):a=puts a0 (dsts ops) (fun d=>a.tmps.getD d undef):=Ub h.tz h.df h.out
end
inductive Kd where
 | rd (v:Value)
 | fl (R:Value→World→Prop)
 | ch
def Kd.isCh:Kd→Bool
 | .ch=>true
 | _=>false
def kAt (q:List Kd) (k:Nat):Kd:=(q[k]?).getD .ch
def chainL (n:Nat) (q:List Kd):List Nat:=(List.range n).filter fun k=>(kAt q k).isCh
def dstAt (ops:Array Oper) (k:Nat):Option Tmp:=(ops[k]?).bind (·.dst)
def chainB (ops:Array Oper) (q:List Kd) (ts:List (List Tmp)):Bool :=
 regB ops []&&decide (0<(chainL ops.size q).length) &&
 ((List.range (chainL ops.size q).length).all fun j=>j == 0||(waits ops ((chainL ops.size q)[j]?.getD 0)).contains ((chainL ops.size q)[j - 1]?.getD 0)) &&
 ((List.range ops.size).all fun k=>k == ((chainL ops.size q)[(chainL ops.size q).length - 1]?.getD 0)||(waits ops ((chainL ops.size q)[(chainL ops.size q).length - 1]?.getD 0)).contains k) &&
 ((List.range (chainL ops.size q).length).all fun j=>((ts[j]?).getD []).all fun t=>((chainL ops.size q).take j).any fun k=>dstAt ops k == some t)
def depsC (ops:Array Oper) (q:List Kd) (f:Tmp→Value) (w:World):List Edge→Prop
 | []=>True
 | e :: es=>(match kAt q e.on,dstAt ops e.on with | .rd v,some d=>f d=v | .fl R,some d=>R (f d) w | _,_=>True)∧depsC ops q f w es
def keepsC (ops:Array Oper) (f:Tmp→Value) (w w':World):List Kd→Nat→Prop
 | [],_=>True
 | x :: l,k=>(match x,dstAt ops k with | .fl R,some d=>R (f d) w→R (f d) w' | _,_=>True)∧keepsC ops f w w' l (k+1)
def flOk (I:List Fact):List Kd→Prop
 | []=>True
 | x :: l=>(match x with | .fl R=>stable R∧Zw I | _=>True)∧flOk I l
def hopK (P:Program) (ops:Array Oper) (q:List Kd) (I:List Fact) (W:World) (a0:Act) (S:Nat→Prop) (n:Nat) (o:Oper) (j:Nat):Kd→Prop
 | .rd v=>∀(f:Tmp→Value) (w:World),Chg S W w→depsC ops q f w (bindE o)→wpList P ops (Only fun a' w'=>a'=(puts a0 (dsts ops) f).put o.dst v∧w'=w) [o] (puts a0 (dsts ops) f) w
 | .fl R=>∀(f:Tmp→Value) (w:World),Chg S W w→depsC ops q f w (bindE o) →
  wpList P ops (Only fun a' w'=>∃v,a'=(puts a0 (dsts ops) f).put o.dst v∧R v w'∧w.grownBy w' none) [o] (puts a0 (dsts ops) f) w
 | .ch=>∀(f:Tmp→Value) (w:World),Chg S W w→(fAt I j).at_ f w→depsC ops q f w (bindE o) →
  wpList P ops (Only fun a' w'=>∃v,a'=(puts a0 (dsts ops) f).put o.dst v∧(fAt I (j+1)).at_ (upd f o.dst v) w'∧(j+1<n→Chg S w w'∧keepsC ops f w w' q 0)) [o] (puts a0 (dsts ops) f) w
def Kd.next (j:Nat):Kd→Nat
 | .ch=>j+1
 | _=>j
def hopsK (P:Program) (ops:Array Oper) (q:List Kd) (I:List Fact) (W:World) (a0:Act) (S:Nat→Prop) (n:Nat):List Oper→List Kd→Nat→Prop
 | [],_,_=>True
 | o :: l,[],j=>hopK P ops q I W a0 S n o j .ch∧hopsK P ops q I W a0 S n l [] (j+1)
 | o :: l,x :: ks,j=>hopK P ops q I W a0 S n o j x∧hopsK P ops q I W a0 S n l ks (x.next j)
def hopC (P:Program) (ops:Array Oper) (q:List Kd) (I:List Fact) (W:World) (a0:Act) (S:Nat→Prop) (o:Oper) (k j n:Nat):Prop:=hopK P ops q I W a0 S n o j (kAt q k)
def hopsC (P:Program) (ops:Array Oper) (q:List Kd) (I:List Fact) (W:World) (a0:Act) (S:Nat→Prop) (n:Nat):List Oper→Nat→Nat→Prop
 | [],_,_=>True
 | o :: l,k,j=>hopC P ops q I W a0 S o k j n∧hopsC P ops q I W a0 S n l (k+1) (if (kAt q k).isCh then j+1 else j)
theorem Uz {P:Program} {ops:Array Oper} {q:List Kd} {I:List Fact} {W:World} {a0:Act} {S:Nat→Prop} {n:Nat}:∀{l:List Oper} {k j:Nat},hopsK P ops q I W a0 S n l (q.drop k) j→hopsC P ops q I W a0 S n l k j
 | [],_,_,_=>trivial
 | o :: l,k,j,h=>by
  cases hd:q.drop k with
  | nil =>
   have hk:kAt q k=.ch:=by
    unfold kAt;rw [List.getElem?_eq_none (List.drop_eq_nil_iff.1 hd)];rfl
   rw [hd] at h;refine ⟨by unfold hopC;rw [hk];exact h.1, ?_⟩;rw [hk]
   exact Uz (k:=k+1) (by
    have:q.drop (k+1)=[]:=List.drop_eq_nil_iff.2 (by have:=List.drop_eq_nil_iff.1 hd;omega)
    rw [this];exact h.2)
  | cons x ks =>
   have hl:k<q.length:=by
    rcases Nat.lt_or_ge k q.length with h1 | h1
    ·exact h1
    ·rw [List.drop_eq_nil_iff.2 h1] at hd;cases hd
   have hkx:=List.drop_eq_getElem_cons hl;rw [hd] at hkx;injection hkx with h1 h2
   have hk:kAt q k=x:=by
    unfold kAt;rw [List.getElem?_eq_getElem hl,h1];rfl
   rw [hd] at h;refine ⟨by unfold hopC;rw [hk];exact h.1, ?_⟩;rw [hk];refine Uz (k:=k+1) ?_;rw [← h2];have:=h.2
   cases x <;> exact this
def cntC (q:List Kd) (k:Nat):Nat:=((List.range k).filter fun k=>(kAt q k).isCh).length
theorem cntC_succ (q:List Kd) (k:Nat):cntC q (k+1)=if (kAt q k).isCh then cntC q k+1 else cntC q k:=by
 unfold cntC;rw [List.range_succ,List.filter_append,List.length_append]
 cases h:(kAt q k).isCh <;> simp [h]
theorem hopsC_at {P:Program} {ops:Array Oper} {q:List Kd} {I:List Fact} {W:World} {a0:Act} {S:Nat→Prop} {n:Nat}:∀{l:List Oper} {k i:Nat} {o:Oper},hopsC P ops q I W a0 S n l k (cntC q k)→l[i]?=some o→hopC P ops q I W a0 S o (k+i) (cntC q (k+i)) n
 | [],_,_,_,_,h=>by simp at h
 | x :: l,k,0,o,h,hi=>by simp at hi;subst hi;exact h.1
 | x :: l,k,i+1,o,h,hi=>by
  simp at hi;have h2:=h.2;rw [← cntC_succ] at h2;have:=hopsC_at (k:=k+1) (i:=i) h2 hi
  rwa [show k+1+i=k+(i+1) by omega] at this
theorem depsC_of {ops:Array Oper} {q:List Kd} {f:Tmp→Value} {w:World}:∀{l:List Edge},(∀e∈l,∀v d,kAt q e.on=.rd v→dstAt ops e.on=some d→f d=v)→(∀e∈l,∀R d,kAt q e.on=.fl R→dstAt ops e.on=some d→R (f d) w)→depsC ops q f w l
 | [],_,_=>trivial
 | e :: l,h,h'=>⟨by split <;> first | trivial | (rename_i v d h1 h2;first | exact h e (List.mem_cons_self ..) v d h1 h2 | exact h' e (List.mem_cons_self ..) v d h1 h2),depsC_of (fun e' he'=>h e' (List.mem_cons_of_mem _ he')) (fun e' he'=>h' e' (List.mem_cons_of_mem _ he'))⟩
theorem Kp {ops:Array Oper} {f:Tmp→Value} {w w':World}:∀{l:List Kd} {k i:Nat} {R:Value→World→Prop} {d:Tmp},keepsC ops f w w' l k→kAt l i=.fl R→dstAt ops (k+i)=some d→R (f d) w→R (f d) w'
 | [],_,_,_,_,_,h,_,_=>by simp [kAt] at h
 | x :: l,k,0,R,d,hk,h,hd,hR=>by
  simp [kAt] at h;subst h;have:=hk.1;rw [show k+0=k from rfl] at hd;simp only [hd] at this;exact this hR
 | x :: l,k,i+1,R,d,hk,h,hd,hR=>Kp (k:=k+1) (i:=i) hk.2 (by simpa [kAt] using h) (by rw [show k+1+i=k+(i+1) by omega];exact hd) hR
theorem Kq {I:List Fact}:∀{l:List Kd} {i:Nat} {R:Value→World→Prop},flOk I l→kAt l i=.fl R→stable R∧Zw I
 | [],_,_,_,h=>by simp [kAt] at h
 | x :: l,0,R,hk,h=>by
  simp [kAt] at h;subst h;exact hk.1
 | x :: l,i+1,R,hk,h=>Kq hk.2 (by simpa [kAt] using h)
theorem isCh_eq {x:Kd}:x.isCh=true ↔ x=.ch:=by cases x <;> simp [Kd.isCh]
theorem VC {q:List Kd}:∀{n k:Nat},k<n→kAt q k=.ch→(chainL n q)[cntC q k]?=some k
 | 0,k,h,_=>by omega
 | n+1,k,h,hq=>by
  unfold chainL;rw [List.range_succ,List.filter_append]
  rcases Nat.lt_or_ge k n with h1 | h1
  ·have ih:=VC (n:=n) h1 hq
   unfold chainL at ih;rw [List.getElem?_append_left (List.getElem?_eq_some_iff.1 ih).1];exact ih
  ·obtain rfl:k=n:=by omega
   unfold cntC;rw [List.getElem?_append_right (Nat.le_refl _)];simp [hq,Kd.isCh]
theorem YY {q:List Kd} {n j k:Nat} (h:(chainL n q)[j]?=some k):k<n∧kAt q k=.ch∧j=cntC q k:=by
 have h1:=List.mem_of_getElem? h;unfold chainL at h1;rw [List.mem_filter] at h1;simp only [List.mem_range,isCh_eq] at h1;refine ⟨h1.1,h1.2, ?_⟩;have h2:=VC h1.1 h1.2;have hnd:(chainL n q).Nodup:=List.Pairwise.filter _ List.nodup_range;have l1:=(List.getElem?_eq_some_iff.1 h);have l2:=(List.getElem?_eq_some_iff.1 h2);obtain ⟨a1,b1⟩:=l1;obtain ⟨a2,b2⟩:=l2;exact (List.getElem_inj hnd).1 (b1.trans b2.symm)
structure GInvC (ops:Array Oper) (q:List Kd) (I:List Fact) (W:World) (a0:Act) (S:Nat→Prop) (b:Nat) (listed:Array Bool) (a:Act) (w:World):Prop where
 sz:listed.size=ops.size
 tz:a.tmps.size=a0.tmps.size
 df:a.defers=a0.defers
 out:∀t,t∉dsts ops→a.tmps[t]?=a0.tmps[t]?
 closed:∀k o,ops[k]?=some o→listed.getD k false=true→∀e∈bindE o,listed.getD e.on false=true
 chn:∀j k,(chainL ops.size q)[j]?=some k→(listed.getD k false=true ↔ j<b)
 le:b≤(chainL ops.size q).length
 ch:b<(chainL ops.size q).length→Chg S W w
 inv:(fAt I b).at_ (fun d=>a.tmps.getD d undef) w
 qv:∀k d v,kAt q k=.rd v→listed.getD k false=true→dstAt ops k=some d→a.tmps.getD d undef=v
 fv:b<(chainL ops.size q).length→∀k d R,kAt q k=.fl R→listed.getD k false=true→dstAt ops k=some d→R (a.tmps.getD d undef) w
section
variable {P:Program} {ops:Array Oper} {q:List Kd} {I:List Fact} {W:World} {a0:Act} {S:Nat→Prop} {Q:Exit→Act→World→Prop}
structure ChainOk (ops:Array Oper) (q:List Kd) (I:List Fact):Prop where
 reg:RegOk ops []
 pos:0<(chainL ops.size q).length
 link:∀j k i o,(chainL ops.size q)[j+1]?=some k→(chainL ops.size q)[j]?=some i→ops[k]?=some o→∃e∈bindE o,e.on=i
 last:∀l o,(chainL ops.size q)[(chainL ops.size q).length - 1]?=some l→ops[l]?=some o→∀k,k<ops.size→k=l∨∃e∈bindE o,e.on=k
 sup:∀j,j<(chainL ops.size q).length→∀t∈(fAt I j).ts,∃i k,i<j∧(chainL ops.size q)[i]?=some k∧dstAt ops k=some t
theorem Kr {ops:Array Oper} {k i:Nat} {o:Oper} (ho:ops[k]?=some o) (h:(waits ops k).contains i=true):∃e∈bindE o,e.on=i:=by
 unfold waits at h;rw [ho] at h
 simpa using h
theorem ChainOk.of (h:chainB ops q (I.map (·.ts))=true):ChainOk ops q I:=by
 unfold chainB at h;simp only [Bool.and_eq_true,decide_eq_true_eq] at h;obtain ⟨⟨⟨⟨h1,h2⟩,h3⟩,h4⟩,h5⟩:=h;refine ⟨RegOk.of (T:=[]) h1,h2,fun j k i o hk hi ho => ?_,fun l o hl ho k hk => ?_,fun j hj t ht => ?_⟩
 ·have:=List.all_eq_true.1 h3 (j+1) (by simpa using (List.getElem?_eq_some_iff.1 hk).1)
  rw [hk,Nat.add_sub_cancel,hi] at this;simp only [Option.getD_some,Bool.or_eq_true] at this
  rcases this with h | h
  ·simp at h
  ·exact Kr ho h
 ·have:=List.all_eq_true.1 h4 k (by simpa using hk)
  rw [hl] at this;simp only [Option.getD_some,Bool.or_eq_true] at this
  rcases this with h | h
  ·exact .inl (by simpa using h)
  ·exact .inr (Kr ho h)
 ·have hts:((I.map (·.ts))[j]?).getD []=(fAt I j).ts:=by
   unfold fAt;rw [List.getElem?_map]
   cases I[j]? <;> rfl
  have h6:=List.all_eq_true.1 h5 j (by simp;omega);rw [hts] at h6;have h7:=List.all_eq_true.1 h6 t ht;obtain ⟨k,hk,hd⟩:=List.any_eq_true.1 h7;obtain ⟨i,hi⟩:=List.mem_iff_getElem?.1 hk;rw [List.getElem?_take] at hi
  split at hi
  ·rename_i hij
   exact ⟨i,k,hij,hi,by simpa using hd⟩
  ·cases hi
theorem GInvC.more {listed:Array Bool} {a:Act} {w:World} {b:Nat} (K:ChainOk ops q I) (h:GInvC ops q I W a0 S b listed a w) {i:Nat} (hi:i<ops.size) (hun:listed.getD i false=false):b<(chainL ops.size q).length:=by
 rcases Nat.lt_or_ge b (chainL ops.size q).length with h1 | h1
 ·exact h1
 ·exfalso
  have hp:=K.pos;have hl:(chainL ops.size q)[(chainL ops.size q).length - 1]?=some ((chainL ops.size q)[(chainL ops.size q).length - 1]'(by omega)):=List.getElem?_eq_getElem (by omega);have h2:=(h.chn _ _ hl).2 (by omega);have h3:=(YY hl).1
  rcases K.last _ _ hl (Array.getElem?_eq_getElem h3) i hi with h4 | ⟨e,he,h4⟩
  ·rw [← h4,hun] at h2;cases h2
  ·have:=h.closed _ _ (Array.getElem?_eq_getElem h3) h2 e he
   rw [h4,hun] at this;cases this
theorem GInvC.is {listed:Array Bool} {a:Act} {w:World} {b:Nat} (h:GInvC ops q I W a0 S b listed a w):a=puts a0 (dsts ops) (fun d=>a.tmps.getD d undef):=Ub h.tz h.df h.out
theorem GInvC.step {listed:Array Bool} {a:Act} {w:World} {b b':Nat} (K:ChainOk ops q I) (hO:flOk I q) (hsz:∀d∈dsts ops,d<a0.tmps.size) (h:GInvC ops q I W a0 S b listed a w) {i:Nat} {o:Oper} (hi:ops[i]?=some o)
  (hun:listed.getD i false=false) (hwait:∀e∈bindE o,listed.getD e.on false=true) {v:Value} {w':World}
  (hc:(kAt q i=.rd v∧w'=w∧b'=b)∨(∃R,kAt q i=.fl R∧w.grownBy w' none∧R v w'∧b'=b)∨(kAt q i=.ch∧cntC q i=b∧b'=b+1∧(fAt I (b+1)).at_ (upd (fun d=>a.tmps.getD d undef) o.dst v) w'∧(b+1<(chainL ops.size q).length→Chg S w w'∧keepsC ops (fun d=>a.tmps.getD d undef) w w' q 0))) :
  GInvC ops q I W a0 S b' (listed.setIfInBounds i true) (a.put o.dst v) w':=by
 have his:i<ops.size:=(Array.getElem?_eq_some_iff.1 hi).1;have hbl:=h.more K his hun;have hdlt:∀d,o.dst=some d→d<a.tmps.size:=fun d hd=>by rw [h.tz];exact hsz d (YM hi hd)
 have hil:i<listed.size:=by rw [h.sz];exact his
 have lset:∀k,k≠i→(listed.setIfInBounds i true).getD k false=listed.getD k false:=fun k hk=>by
  simp only [Array.getD_eq_getD_getElem?,Array.getElem?_setIfInBounds,Ne.symm hk,if_false]
 have lself:(listed.setIfInBounds i true).getD i false=true:=by simp [hil]
 have lold:∀k,listed.getD k false=true→(listed.setIfInBounds i true).getD k false=true:=fun k hk=>by
  by_cases e:k=i
  ·subst e;exact lself
  ·rw [lset k e];exact hk
 have hf:(fun d=>(a.put o.dst v).tmps.getD d undef)=upd (fun d=>a.tmps.getD d undef) o.dst v:=by
  funext t;exact Vd a o.dst v t hdlt
 have hne:∀k d,k≠i→dstAt ops k=some d→o.dst≠some d:=fun k d hk hd hd'=>by
  unfold dstAt at hd
  cases hko:ops[k]? with
  | none=>rw [hko] at hd;cases hd
  | some ok =>
   rw [hko] at hd;exact Ym K.reg.nodup (l:=ops.toList) (i:=k) (j:=i) (by simpa using hko) (by simpa using hi) hk hd hd'
 have hupd:∀k d,k≠i→dstAt ops k=some d→(a.put o.dst v).tmps.getD d undef=a.tmps.getD d undef:=fun k d hk hd=>by
  have h9:(a.put o.dst v).tmps.getD d undef=upd (fun d=>a.tmps.getD d undef) o.dst v d:=congrFun hf d;rw [h9,Xi _ _ _ _ (hne k d hk hd)]
 have hnc:b'=b∧kAt q i≠.ch∨b'=b+1∧kAt q i=.ch∧cntC q i=b:=by
  rcases hc with ⟨h1,_,h2⟩ | ⟨R,h1,_,_,h2⟩ | ⟨h1,h2,h3,_,_⟩
  ·exact .inl ⟨h2,by rw [h1];simp⟩
  ·exact .inl ⟨h2,by rw [h1];simp⟩
  ·exact .inr ⟨h3,h1,h2⟩
 refine ⟨by simp [h.sz], ?_, ?_,fun t ht => ?_,fun k ok hk hl e he => ?_,fun j k hj => ?_, ?_,fun hlt => ?_, ?_,fun k d u hq hl hd => ?_,fun hlt k d R hq hl hd => ?_⟩
 ·rw [← h.tz];cases o.dst <;> simp [Act.put]
 ·rw [← h.df];cases o.dst <;> rfl
 ·rw [← h.out t ht]
  cases hd:o.dst with
  | none=>rfl
  | some d =>
   have:d≠t:=fun e=>ht (e ▸ YM hi hd);simp [Act.put,this]
 ·by_cases hik:k=i
  ·subst hik
   obtain rfl:ok=o:=by rw [hi] at hk;injection hk with hk;exact hk.symm
   exact lold _ (hwait e he)
  ·rw [lset k hik] at hl
   exact lold _ (h.closed k ok hk hl e he)
 ·rcases hnc with ⟨rfl,h1⟩ | ⟨rfl,h1,h2⟩
  ·have hki:k≠i:=fun e=>h1 (by rw [← e];exact (YY hj).2.1)
   rw [lset k hki];exact h.chn j k hj
  ·by_cases hki:k=i
   ·subst hki
    have:=(YY hj).2.2;simp only [lself,true_iff];omega
   ·rw [lset k hki,h.chn j k hj]
    have h3:j≠b:=fun e=>hki (by
     have h4:=VC his h1;rw [h2,← e,hj] at h4
     injection h4)
    omega
 ·rcases hnc with ⟨rfl,_⟩ | ⟨rfl,_,_⟩
  ·exact h.le
  ·omega
 ·rcases hc with ⟨_,rfl,rfl⟩ | ⟨_,_,h2,_,rfl⟩ | ⟨_,_,rfl,_,h5⟩
  ·exact h.ch hlt
  ·exact (h.ch hlt).trans (Chg.of h2 fun g hg'=>by simp at hg')
  ·exact (h.ch hbl).trans (h5 hlt).1
 ·rw [hf]
  have same:kAt q i≠.ch→∀c,b=c→(fAt I c).ts.map (upd (fun d=>a.tmps.getD d undef) o.dst v)=(fAt I c).ts.map (fun d=>a.tmps.getD d undef):=fun h1 c hbc=>List.map_congr_left fun t ht=>by
   obtain ⟨i',k',hi',hk',hd'⟩:=K.sup c (hbc ▸ hbl) t ht;refine Xi _ _ _ _ (hne k' t (fun e=>h1 ?_) hd');rw [← e];exact (YY hk').2.1
  rcases hc with ⟨h1,rfl,rfl⟩ | ⟨R,h1,h2,_,rfl⟩ | ⟨_,_,rfl,h4,_⟩
  ·unfold Fact.at_
   rw [same (by rw [h1];simp) _ rfl];exact h.inv
  ·unfold Fact.at_
   rw [same (by rw [h1];simp) _ rfl];exact Xr (Kq hO h1).2 _ _ _ _ h.inv h2
  ·exact h4
 ·by_cases hki:k=i
  ·subst hki
   rcases hc with ⟨h1,_,_⟩ | ⟨R,h1,_,_,_⟩ | ⟨h1,_,_,_,_⟩
   ·rw [h1] at hq
    injection hq with hq;subst hq;have h9:(a.put o.dst v).tmps.getD d undef=upd (fun d=>a.tmps.getD d undef) o.dst v d:=congrFun hf d;unfold dstAt at hd;rw [hi] at hd;have hd':o.dst=some d:=hd;rw [h9,hd',Zn,if_pos rfl]
   ·rw [h1] at hq;cases hq
   ·rw [h1] at hq;cases hq
  ·rw [lset k hki] at hl
   rw [hupd k d hki hd];exact h.qv k d u hq hl hd
 ·by_cases hki:k=i
  ·subst hki
   rcases hc with ⟨h1,_,_⟩ | ⟨R',h1,_,h3,_⟩ | ⟨h1,_,_,_,_⟩
   ·rw [h1] at hq;cases hq
   ·rw [h1] at hq
    injection hq with hq;subst hq;have h9:(a.put o.dst v).tmps.getD d undef=upd (fun d=>a.tmps.getD d undef) o.dst v d:=congrFun hf d;unfold dstAt at hd;rw [hi] at hd;have hd':o.dst=some d:=hd;rw [h9,hd',Zn,if_pos rfl];exact h3
   ·rw [h1] at hq;cases hq
  ·rw [lset k hki] at hl
   rw [hupd k d hki hd];have h6:=h.fv hbl k d R hq hl hd
   rcases hc with ⟨_,rfl,_⟩ | ⟨R',_,h2,_,_⟩ | ⟨_,_,rfl,_,h5⟩
   ·exact h6
   ·exact (Kq hO hq).1 _ _ _ h6 h2
   ·exact Kp (h5 hlt).2 hq (by rw [Nat.zero_add];exact hd) h6
theorem regC_any (K:ChainOk ops q I) (hO:flOk I q) (hsz:∀d∈dsts ops,d<a0.tmps.size) (hh:hopsC P ops q I W a0 S (chainL ops.size q).length ops.toList 0 0)
  (fin:∀(f:Tmp→Value) (w:World),(fAt I (chainL ops.size q).length).at_ f w→(∀k d v,kAt q k=.rd v→dstAt ops k=some d→f d=v)→Q .normal (puts a0 (dsts ops) f) w) :
  ∀(fuel:Nat) (b:Nat) (listed:Array Bool) (a:Act) (w:World),GInvC ops q I W a0 S b listed a w→listed.toList.countP (fun b=>!b)≤fuel→wpAny P .any ops Q fuel listed a w:=by
 have done:∀(b:Nat) (listed:Array Bool) (a:Act) (w:World),GInvC ops q I W a0 S b listed a w→Region.ready .any ops listed=[]→Q .normal a w:=fun b listed a w h hr=>by
  have hall:∀k,k<ops.size→listed.getD k false=true:=fun k hk=>YN K.reg h.sz hr (k+1) k (by omega) hk;have hp:=K.pos;have hl:(chainL ops.size q)[(chainL ops.size q).length - 1]?=some ((chainL ops.size q)[(chainL ops.size q).length - 1]'(by omega)):=List.getElem?_eq_getElem (by omega);have h2:=(h.chn _ _ hl).1 (hall _ (YY hl).1);have h3:=h.le;obtain rfl:b=(chainL ops.size q).length:=by omega
  rw [h.is];refine fin _ w h.inv fun k d v hq hd=>h.qv k d v hq (hall k ?_) hd;unfold dstAt at hd
  cases hk:ops[k]? with
  | none=>rw [hk] at hd;cases hd
  | some _=>exact (Array.getElem?_eq_some_iff.1 hk).1
 intro fuel
 induction fuel with
 | zero =>
  intro b listed a w h hc
  have hr:Region.ready .any ops listed=[]:=by
   cases hr:Region.ready .any ops listed with
   | nil=>rfl
   | cons i l =>
    exfalso
    have hi:=(mem_ready.1 (show i∈Region.ready .any ops listed by rw [hr];exact List.mem_cons_self ..)).1;have h0:listed.toList.countP (fun b=>!b)=0:=by omega
    rw [List.countP_eq_zero] at h0
    have hlt:i<listed.size:=by
     rcases Nat.lt_or_ge i listed.size with h1 | h1
     ·exact h1
     ·simp [Array.getElem?_eq_none h1] at hi
    have hv:listed[i]=false:=by simpa [hlt] using hi
    have:=h0 listed[i] (Array.getElem_mem_toList hlt);simp [hv] at this
  exact ⟨hr,done b listed a w h hr⟩
 | succ fuel ih =>
  intro b listed a w h hc;refine ⟨fun hr=>done b listed a w h hr,fun i hi => ?_⟩;obtain ⟨hl,o,ho,hall⟩:=mem_ready.1 hi
  have hwait:∀e∈bindE o,listed.getD e.on false=true:=fun e he=>by
   obtain ⟨h1,h2⟩:=bind_mem.1 he;exact hall e (by simpa using h1) h2
  have his:i<ops.size:=(Array.getElem?_eq_some_iff.1 ho).1
  have hun:listed.getD i false=false:=by
   have hlt:i<listed.size:=by rw [h.sz];exact his
   simp [hlt] at hl ⊢;exact hl
  have hbl:=h.more K his hun;have hop:=hopsC_at (k:=0) hh (i:=i) (by simpa using ho);rw [Nat.zero_add] at hop;have hdeps:depsC ops q (fun d=>a.tmps.getD d undef) w (bindE o):=depsC_of (fun e he v d hq hd=>h.qv e.on d v hq (hwait e he) hd) (fun e he R d hq hd=>h.fv hbl e.on d R hq (hwait e he) hd);unfold wpOp;simp only [ho]
  cases hq:kAt q i with
  | rd v =>
   unfold hopC at hop;rw [hq] at hop;unfold hopK at hop;have h1:=hop (fun d=>a.tmps.getD d undef) w (h.ch hbl) hdeps;rw [← h.is] at h1
   have next:∀a' w',(a'=a.put o.dst v∧w'=w)→wpAny P .any ops Q fuel (listed.setIfInBounds i true) a' w':=fun a' w' ⟨ha,hw⟩=>by
    subst ha;subst hw;exact ih b _ _ _ (h.step K hO hsz ho hun hwait (.inl ⟨hq,rfl,rfl⟩)) (Ww hc hl)
   unfold wpList at h1
   split
   ·rename_i hw
    rw [if_pos hw] at h1
    rcases h1 with h1 | h1
    ·exact .inl (We (Oper.wp_mono next h1))
    ·exact (XI h1.2).elim
   ·rename_i hw
    rw [if_neg hw] at h1;exact next _ _ h1
  | fl R =>
   unfold hopC at hop;rw [hq] at hop;unfold hopK at hop;have h1:=hop (fun d=>a.tmps.getD d undef) w (h.ch hbl) hdeps;rw [← h.is] at h1
   have next:∀a' w',(∃v,a'=a.put o.dst v∧R v w'∧w.grownBy w' none)→wpAny P .any ops Q fuel (listed.setIfInBounds i true) a' w':=fun a' w' ⟨v,ha,hv,hg⟩=>by
    subst ha;exact ih b _ _ _ (h.step K hO hsz ho hun hwait (.inr (.inl ⟨R,hq,hg,hv,rfl⟩))) (Ww hc hl)
   unfold wpList at h1
   split
   ·rename_i hw
    rw [if_pos hw] at h1
    rcases h1 with h1 | h1
    ·exact .inl (We (Oper.wp_mono next h1))
    ·exact (XI h1.2).elim
   ·rename_i hw
    rw [if_neg hw] at h1;exact next _ _ h1
  | ch =>
   have hci:cntC q i=b:=by
    have h4:=VC his hq
    rcases Nat.lt_trichotomy (cntC q i) b with h5 | h5 | h5
    ·have:=(h.chn _ _ h4).2 h5
     rw [hun] at this;cases this
    ·exact h5
    ·exfalso
     have h6:=(List.getElem?_eq_some_iff.1 h4).1;have h7:(chainL ops.size q)[cntC q i - 1]?=some ((chainL ops.size q)[cntC q i - 1]'(by omega)):=List.getElem?_eq_getElem (by omega);obtain ⟨e,he,h8⟩:=K.link (cntC q i - 1) i _ o (by rw [show cntC q i - 1+1=cntC q i by omega];exact h4) h7 ho;have h9:=hwait e he;rw [h8] at h9;have:=(h.chn _ _ h7).1 h9;omega
   unfold hopC at hop;rw [hq,hci] at hop;unfold hopK at hop;have h1:=hop (fun d=>a.tmps.getD d undef) w (h.ch hbl) h.inv hdeps;rw [← h.is] at h1
   have next:∀a' w',(∃v,a'=a.put o.dst v∧(fAt I (b+1)).at_ (upd (fun d=>a.tmps.getD d undef) o.dst v) w'∧(b+1<(chainL ops.size q).length→Chg S w w'∧keepsC ops (fun d=>a.tmps.getD d undef) w w' q 0))→wpAny P .any ops Q fuel (listed.setIfInBounds i true) a' w':=fun a' w' ⟨v,ha,hv,hg⟩=>by
    subst ha;exact ih (b+1) _ _ _ (h.step K hO hsz ho hun hwait (.inr (.inr ⟨hq,hci,rfl,hv,hg⟩))) (Ww hc hl)
   unfold wpList at h1
   split
   ·rename_i hw
    rw [if_pos hw] at h1
    rcases h1 with h1 | h1
    ·exact .inl (We (Oper.wp_mono next h1))
    ·exact (XI h1.2).elim
   ·rename_i hw
    rw [if_neg hw] at h1;exact next _ _ h1
theorem Zc {F:Fact} {l:List Fact} (h:Uc F) (k:Zw l):Zw (F :: l):=fun G hG=>by
 rcases List.mem_cons.1 hG with rfl | hG
 ·exact h
 ·exact k G hG
theorem ZX:Zw []:=fun G hG=>by simp at hG
def knowsC (ops:Array Oper) (f:Tmp→Value):List Kd→Nat→Prop
 | [],_=>True
 | x :: l,k=>(match x,dstAt ops k with | .rd v,some d=>f d=v | _,_=>True)∧knowsC ops f l (k+1)
theorem Ks {f:Tmp→Value}:∀{l:List Kd} {k:Nat},(∀i d v,kAt l i=.rd v→dstAt ops (k+i)=some d→f d=v)→knowsC ops f l k
 | [],_,_=>trivial
 | x :: l,k,h=>⟨by split <;> first | trivial | (rename_i v d h2;exact h 0 d v rfl h2),Ks fun i d v h1 h2=>h (i+1) d v (by simpa [kAt] using h1) (by rw [show k+(i+1)=k+1+i by omega];exact h2)⟩
theorem Zg {id:Nat} {w:World} (q:List Kd) (S:Nat→Prop) (I:List Fact) (hm:P.follows .mixedOrders=true) (hB:chainB ops q (I.map (·.ts))=true) (hsz:(dsts ops).all (fun d=>d<a0.tmps.size)=true)
  (n:Nat) (hn:(chainL ops.size q).length=n) (hO:flOk I q)
  (h0:(fAt I 0).R [] w.drew) (h0':(fAt I 0).ts=[])
  (hh:hopsK P ops q I w.drew a0 S n ops.toList q 0)
  (fin:∀(f:Tmp→Value) (w':World),(fAt I n).at_ f w'→knowsC ops f q 0→Q .normal (puts a0 (dsts ops) f) w'):(Code.region id ops true).wp P Q a0 w:=by
 subst hn;refine wp_region_any hm (regC_any (W:=w.drew) (ChainOk.of hB) hO (fun d hd=>by simpa using List.all_eq_true.1 hsz d hd) (Uz (k:=0) hh) (fun f w' h1 h2=>fin f w' h1 (Ks fun i d v h3 h4=>h2 i d v h3 (by simpa using h4))) ops.size 0 _ a0 _ ⟨by simp,rfl,rfl,fun _ _=>rfl, ?_, ?_,Nat.zero_le _,fun _=>Chg.refl _ _, ?_, ?_, ?_⟩ ?_)
 ·intro k o hk hl
  simp only [Array.getD_eq_getD_getElem?,Array.getElem?_replicate] at hl
  split at hl <;> simp at hl
 ·intro j k hj
  simp only [Array.getD_eq_getD_getElem?,Array.getElem?_replicate]
  constructor
  ·intro h;split at h <;> simp at h
  ·intro h;omega
 ·unfold Fact.at_;rw [h0'];exact h0
 ·intro k d v _ hl
  simp only [Array.getD_eq_getD_getElem?,Array.getElem?_replicate] at hl
  split at hl <;> simp at hl
 ·intro _ k d v _ hl
  simp only [Array.getD_eq_getD_getElem?,Array.getElem?_replicate] at hl
  split at hl <;> simp at hl
 ·have:=List.countP_le_length (p:=fun b:Bool=>!b) (l:=(Array.replicate ops.size false).toList)
  simpa using this
end
end Go.Proofs.YthaadgdeadbhkaaGreat
