/-
 Results that lie in memory: structs read out of blocks that are known whole.
-/
import Derived.Test.YthaadgdeadbhkaaGreatMgFnExactEngineRound1
import Derived.Laws.Rows
open Go.RowKit
set_option linter.unusedVariables false
set_option linter.unusedSimpArgs false
namespace Go.Proofs.YthaadgdeadbhkaaGreat
theorem Blk.new' (w:World) (t:TypeId) (cs:Array Value) (g:Nat) (h:w.heap.size=g):Blk (w.alloc (.cells cs t)) g t cs:=h ▸ Blk.new w t cs
def isSt:TypeDesc→Bool
 | .struct _=>true
 | .array _ _=>true
 | _=>false
structure St (P:Program) (T:TypeId) (n:Nat):Prop where
 hu:∃d,P.underlying T=some d∧isSt d=true
 hi:(P.info? T).map (·.size)=some n
section
variable {P:Program} {fn:Func} {R:Ending→World→Prop} {a:Act} {w:World}
theorem run_row {T t:TypeId} {g:Nat} {cs:Array Value} {n:Nat} (S:St P T n) (B:Blk w g t cs) (hn:cs.size=n):(loadVar T ⟨g,0,none⟩).run P w=.ok (.agg cs) w:=by
 obtain ⟨⟨d,hu,hd⟩,hi⟩:=S;exact run_loadVar_row w g t T cs (0,0) d B hu (by cases d <;> first | rfl | cases hd) (by rw [hi,hn])
theorem Yo {p:Tmp} {T:TypeId} {g n:Nat} {cs:Array Value} (h:fn.results=#[.cell p T]) (hp:a.tmps.getD p undef=.pointer (some ⟨g,0,none⟩)) (S:St P T n) (B:Blk w g T cs) (hn:cs.size=n)
  (hd:a.defers=[]) (hR:R (.returned (.agg cs)) w):bodyPost P fn R .ret a w:=by
 refine bodyPost_ret (v:=.agg cs) ?_ hd hR;have hp':a.tmps[p]?.getD undef=.pointer (some ⟨g,0,none⟩):=by simpa using hp
 simp [results,h,hp',asAddr,run_row S B hn]
theorem ret_ct {p r:Tmp} {T:TypeId} {g n:Nat} {cs:Array Value} (h:fn.results=#[.cell p T,.tmp r]) (hp:a.tmps.getD p undef=.pointer (some ⟨g,0,none⟩)) (S:St P T n) (B:Blk w g T cs) (hn:cs.size=n)
  (hd:a.defers=[]) (hR:R (.returned (.tuple #[.agg cs,a.tmps.getD r undef])) w):bodyPost P fn R .ret a w:=by
 refine bodyPost_ret (v:=.tuple #[.agg cs,a.tmps.getD r undef]) ?_ hd hR;have hp':a.tmps[p]?.getD undef=.pointer (some ⟨g,0,none⟩):=by simpa using hp
 simp [results,h,hp',asAddr,run_row S B hn]
end
theorem Blk.c9 {w:World} {g:Nat} {T:TypeId} {a0 a1 a2 a3 a4 a5 a6 a7 a8:Value} (h:Blk w g T #[a0,a1,a2,a3,a4,a5,a6,a7,a8]):w.cell? ⟨g,0,none⟩=some a0∧w.cell? ⟨g,1,none⟩=some a1∧w.cell? ⟨g,2,none⟩=some a2∧w.cell? ⟨g,3,none⟩=some a3∧w.cell? ⟨g,4,none⟩=some a4∧w.cell? ⟨g,5,none⟩=some a5∧w.cell? ⟨g,6,none⟩=some a6∧w.cell? ⟨g,7,none⟩=some a7∧w.cell? ⟨g,8,none⟩=some a8 :=
 ⟨by simpa using h.cell 0,by simpa using h.cell 1,by simpa using h.cell 2,by simpa using h.cell 3,by simpa using h.cell 4,by simpa using h.cell 5,by simpa using h.cell 6,by simpa using h.cell 7,by simpa using h.cell 8⟩
theorem Blk.f9 {w:World} {g:Nat} {T:TypeId} {cs:Array Value} (h:Blk w g T cs):w.frozen? ⟨g,0,none⟩=false∧w.frozen? ⟨g,1,none⟩=false∧w.frozen? ⟨g,2,none⟩=false∧w.frozen? ⟨g,3,none⟩=false∧w.frozen? ⟨g,4,none⟩=false∧w.frozen? ⟨g,5,none⟩=false∧w.frozen? ⟨g,6,none⟩=false∧w.frozen? ⟨g,7,none⟩=false∧w.frozen? ⟨g,8,none⟩=false :=
 ⟨h.frozen 0,h.frozen 1,h.frozen 2,h.frozen 3,h.frozen 4,h.frozen 5,h.frozen 6,h.frozen 7,h.frozen 8⟩
structure Fact where
 ts:List Tmp
 R:List Value→World→Prop
def Fact.at_ (F:Fact) (f:Tmp→Value) (w:World):Prop:=F.R (F.ts.map f) w
def onT (d:Tmp) (R:Value→World→Prop):Fact:=⟨[d],fun l w=>R (l.getD 0 undef) w⟩
def noF:Fact:=⟨[],fun _ _=>True⟩
theorem Yn (d:Tmp) (R:Value→World→Prop) (f:Tmp→Value) (w:World):(onT d R).at_ f w=R (f d) w:=rfl
def fAt (T:List Fact) (k:Nat):Fact:=(T[k]?).getD noF
def bindE (o:Oper):List Edge:=o.after.toList.filter (Region.binds .any)
def depsF (T:List Fact) (f:Tmp→Value) (w:World):List Edge→Prop
 | []=>True
 | e :: es=>(fAt T e.on).at_ f w∧depsF T f w es
def keeps (f:Tmp→Value) (w w':World) (k:Nat):List Fact→Nat→Prop
 | [],_=>True
 | F :: l,j=>(j≠k→F.at_ f w→F.at_ f w')∧keeps f w w' k l (j+1)
def upd (f:Tmp→Value):Option Tmp→Value→Tmp→Value
 | some d,v=>fun t=>if t=d then v else f t
 | none,_=>f
theorem Yf (f:Tmp→Value) (d:Tmp) (v:Value) (t:Tmp):upd f (some d) v t=if t=d then v else f t:=rfl
def knowsF (T:List Fact) (f:Tmp→Value) (w:World):List Fact→Prop
 | []=>True
 | F :: l=>F.at_ f w∧knowsF T f w l
def Ve (F:Fact):Prop:=∀l w w',F.R l w→w.grownBy w' none→F.R l w'
def Zn (T:List Fact):Prop:=∀F∈T,Ve F
theorem Yg {d:Tmp} {R:Value→World→Prop} (h:stable R):Ve (onT d R):=fun l w w' hr hg=>h _ _ _ hr hg
theorem stableF_no:Ve noF:=fun _ _ _ _ _=>trivial
theorem Xa {T:List Fact} (h:Zn T) (k:Nat):Ve (fAt T k):=by
 unfold fAt
 cases hk:T[k]? with
 | none=>exact stableF_no
 | some F=>exact h F (List.mem_of_getElem? hk)
def regB (ops:Array Oper) (ts:List (List Tmp)):Bool :=
 (ops.toList.zipIdx.all fun (o,i)=>(bindE o).all fun e=>e.on<i)&&decide (dsts ops).Nodup &&
 (ops.toList.zipIdx.all fun (o,i)=>((ts[i]?).getD []).all fun t=>o.dst == some t||(bindE o).any fun e=>((ops[e.on]?).bind (·.dst)) == some t)&&decide (ts.length≤ops.size)
structure RInv (ops:Array Oper) (T:List Fact) (W:World) (a0:Act) (listed:Array Bool) (a:Act) (w:World):Prop where
 g:W.grownBy w none
 sz:listed.size=ops.size
 tz:a.tmps.size=a0.tmps.size
 df:a.defers=a0.defers
 out:∀t,t∉dsts ops→a.tmps[t]?=a0.tmps[t]?
 facts:∀k o,ops[k]?=some o→listed.getD k false=true→(fAt T k).at_ (fun d=>a.tmps.getD d undef) w
 closed:∀k o,ops[k]?=some o→listed.getD k false=true→∀e∈bindE o,listed.getD e.on false=true
theorem Wr {f:Tmp→Value} {w w':World} {k:Nat}:∀{l:List Fact} {i j:Nat} {F:Fact},keeps f w w' k l i→l[j]?=some F→i+j≠k→F.at_ f w→F.at_ f w'
 | [],_,_,_,_,h,_=>by simp at h
 | G :: l,i,0,F,hk,h,hne=>by simp at h;subst h;exact hk.1 hne
 | G :: l,i,j+1,F,hk,h,hne=>by
  simp at h;exact Wr (i:=i+1) (j:=j) hk.2 h (by omega)
theorem depsF_of {T:List Fact} {f:Tmp→Value} {w:World}:∀{l:List Edge},(∀e∈l,(fAt T e.on).at_ f w)→depsF T f w l
 | [],_=>trivial
 | e :: l,h=>⟨h e (List.mem_cons_self ..),depsF_of fun e' he'=>h e' (List.mem_cons_of_mem _ he')⟩
theorem UK {T:List Fact} {f:Tmp→Value} {w:World}:∀{l:List Fact},(∀F∈l,F.at_ f w)→knowsF T f w l
 | [],_=>trivial
 | F :: l,h=>⟨h F (List.mem_cons_self ..),UK fun G hG=>h G (List.mem_cons_of_mem _ hG)⟩
theorem YR (f:Tmp→Value) (o:Option Tmp) (v:Value) (t:Tmp) (h:o≠some t):upd f o v t=f t:=by
 cases o with
 | none=>rfl
 | some d=>rw [Yf,if_neg fun e=>h (by rw [e])]
theorem Wb (a:Act) (o:Option Tmp) (v:Value) (t:Tmp) (h:∀d,o=some d→d<a.tmps.size):(a.put o v).tmps.getD t undef=upd (fun d=>a.tmps.getD d undef) o v t:=by
 cases o with
 | none=>rfl
 | some d =>
  have hd:=h d rfl;rw [Yf]
  by_cases e:t=d
  ·subst e;rw [if_pos rfl];simp [Act.put,hd]
  ·rw [if_neg e]
   have:d≠t:=fun x=>e x.symm;simp [Act.put,this]
section
variable {P:Program} {ops:Array Oper} {T:List Fact} {W:World} {a0:Act} {Q:Exit→Act→World→Prop}
structure RegOk (ops:Array Oper) (T:List Fact):Prop where
 early:∀i o,ops[i]?=some o→∀e∈bindE o,e.on<i
 nodup:(dsts ops).Nodup
 sup:∀i o,ops[i]?=some o→∀t∈(fAt T i).ts,o.dst=some t∨∃e∈bindE o,∃o',ops[e.on]?=some o'∧o'.dst=some t
 len:T.length≤ops.size
theorem RegOk.of (h:regB ops (T.map (·.ts))=true):RegOk ops T:=by
 simp only [regB,Bool.and_eq_true,decide_eq_true_eq,List.all_eq_true] at h;obtain ⟨⟨⟨h1,h2⟩,h3⟩,h4⟩:=h;refine ⟨fun i o hi e he => ?_,h2,fun i o hi t ht => ?_,by simpa using h4⟩
 ·have:=h1 (o,i) (by rw [List.mem_zipIdx_iff_getElem?];simpa using hi) e he
  simpa using this
 ·have hts:((T.map (·.ts))[i]?).getD []=(fAt T i).ts:=by
   unfold fAt;rw [List.getElem?_map]
   cases T[i]? <;> rfl
  have:=h3 (o,i) (by rw [List.mem_zipIdx_iff_getElem?];simpa using hi) t (by simp only;rw [hts];exact ht);simp only [Bool.or_eq_true,beq_iff_eq,List.any_eq_true] at this
  rcases this with h | ⟨e,he,hd⟩
  ·exact .inl h
  ·refine .inr ⟨e,he, ?_⟩
   cases ho:ops[e.on]? with
   | none=>rw [ho] at hd;cases hd
   | some o'=>rw [ho] at hd;exact ⟨o',rfl,hd⟩
theorem RInv.step {listed:Array Bool} {a:Act} {w:World} (K:RegOk ops T) (hsz:∀d∈dsts ops,d<a0.tmps.size) (hst:Zn T) (h:RInv ops T W a0 listed a w) {i:Nat} {o:Oper} (hi:ops[i]?=some o)
  (hun:listed.getD i false=false) (hwait:∀e∈bindE o,listed.getD e.on false=true) {v:Value} {w':World} (hv:(fAt T i).at_ (upd (fun d=>a.tmps.getD d undef) o.dst v) w')
  (hg:w.grownBy w' none∨(o.dst=none∧W.grownBy w' none∧keeps (fun d=>a.tmps.getD d undef) w w' i T 0)):RInv ops T W a0 (listed.setIfInBounds i true) (a.put o.dst v) w':=by
 have hdlt:∀d,o.dst=some d→d<a.tmps.size:=fun d hd=>by rw [h.tz];exact hsz d (Yw hi hd)
 have hil:i<listed.size:=by rw [h.sz];exact (Array.getElem?_eq_some_iff.1 hi).1
 have lset:∀k,k≠i→(listed.setIfInBounds i true).getD k false=listed.getD k false:=fun k hk=>by
  simp only [Array.getD_eq_getD_getElem?,Array.getElem?_setIfInBounds,Ne.symm hk,if_false]
 have lold:∀k,listed.getD k false=true→(listed.setIfInBounds i true).getD k false=true:=fun k hk=>by
  by_cases e:k=i
  ·subst e;simp [hil]
  ·rw [lset k e];exact hk
 refine ⟨?_,by simp [h.sz], ?_, ?_,fun t ht => ?_,fun k ok hk hl => ?_,fun k ok hk hl e he => ?_⟩
 ·rcases hg with hg | ⟨_,hg,_⟩
  ·exact gbT h.g hg
  ·exact hg
 ·rw [← h.tz];cases o.dst <;> simp [Act.put]
 ·rw [← h.df];cases o.dst <;> rfl
 ·rw [← h.out t ht]
  cases hd:o.dst with
  | none=>rfl
  | some d =>
   have:d≠t:=fun e=>ht (e ▸ Yw hi hd);simp [Act.put,this]
 ·have hf:(fun d=>(a.put o.dst v).tmps.getD d undef)=upd (fun d=>a.tmps.getD d undef) o.dst v:=by
   funext t;exact Wb a o.dst v t hdlt
  rw [hf]
  by_cases hik:k=i
  ·subst hik
   exact hv
  ·rw [lset k hik] at hl
   have hold:=h.facts k ok hk hl
   have hne:∀t∈(fAt T k).ts,o.dst≠some t:=fun t ht hd=>by
    rcases K.sup k ok hk t ht with h1 | ⟨e,he,o',ho',hd'⟩
    ·exact ZZ K.nodup (l:=ops.toList) (i:=k) (j:=i) (by simpa using hk) (by simpa using hi) hik h1 hd
    ·have h2:=h.closed k ok hk hl e he
     have h3:e.on≠i:=fun x=>by rw [x,hun] at h2;cases h2
     exact ZZ K.nodup (l:=ops.toList) (i:=e.on) (j:=i) (by simpa using ho') (by simpa using hi) h3 hd' hd
   have hmap:(fAt T k).ts.map (upd (fun d=>a.tmps.getD d undef) o.dst v)=(fAt T k).ts.map (fun d=>a.tmps.getD d undef):=List.map_congr_left fun t ht=>YR _ _ _ _ (hne t ht);unfold Fact.at_;rw [hmap]
   rcases hg with hg | ⟨hd,_,hk2⟩
   ·exact Xa hst k _ _ _ hold hg
   ·cases hT:T[k]? with
    | none=>unfold fAt;rw [hT];trivial
    | some F =>
     have e:fAt T k=F:=by unfold fAt;rw [hT];rfl
     rw [e] at hold ⊢;exact Wr hk2 hT (by omega) hold
 ·by_cases hik:k=i
  ·subst hik
   obtain rfl:ok=o:=by rw [hi] at hk;injection hk with hk;exact hk.symm
   exact lold _ (hwait e he)
  ·rw [lset k hik] at hl
   exact lold _ (h.closed k ok hk hl e he)
theorem RInv.is {listed:Array Bool} {a:Act} {w:World} (h:RInv ops T W a0 listed a w):a=puts a0 (dsts ops) (fun d=>a.tmps.getD d undef):=Vd h.tz h.df h.out
theorem bind_mem {o:Oper} {e:Edge}:e∈bindE o ↔ e∈o.after.toList∧Region.binds .any e=true:=List.mem_filter
theorem YN (K:RegOk ops T) {listed:Array Bool} (hz:listed.size=ops.size) (hr:Region.ready .any ops listed=[]):∀n k,k<n→k<ops.size→listed.getD k false=true
 | 0,_,h,_=>absurd h (Nat.not_lt_zero _)
 | n+1,k,h,hk=>by
  cases hl:listed.getD k false with
  | true=>rfl
  | false =>
   exfalso
   have:k∈Region.ready .any ops listed:=by
    refine mem_ready.2 ⟨?_,ops[k],Array.getElem?_eq_getElem hk,fun e he hb => ?_⟩
    ·have hk':k<listed.size:=by omega
     simp [hk'] at hl ⊢;exact hl
    ·have h2:=K.early k _ (Array.getElem?_eq_getElem hk) e (bind_mem.2 ⟨by simpa using he,hb⟩)
     exact YN K hz hr n e.on (by omega) (by omega)
   rw [hr] at this
   cases this
end
theorem Zy (n:Nat):Region.binds .any ⟨n,.data⟩=true:=rfl
theorem Zp (n:Nat):Region.binds .any ⟨n,.chain⟩=true:=rfl
theorem Zq (n:Nat):Region.binds .any ⟨n,.guard⟩=true:=rfl
theorem Zr (n:Nat):Region.binds .any ⟨n,.phase⟩=true:=rfl
theorem Zz (n:Nat) (r:Departure):Region.binds .any ⟨n,.textOnly r⟩=false:=rfl
theorem Yu (n:Nat) (r:Departure):Region.binds .any ⟨n,.gcOnly r⟩=false:=rfl
def waits (ops:Array Oper) (s:Nat):List Nat:=match ops[s]? with | some o=>(bindE o).map (·.on) | none=>[]
structure GInv2 (ops:Array Oper) (T:List Fact) (W:World) (a0:Act) (r:Option Nat) (s:Nat) (listed:Array Bool) (a:Act) (w:World):Prop where
 g:W.grownBy w r
 pre:listed.getD s false=false→W.grownBy w none
 sz:listed.size=ops.size
 tz:a.tmps.size=a0.tmps.size
 df:a.defers=a0.defers
 out:∀t,t∉dsts ops→a.tmps[t]?=a0.tmps[t]?
 facts:∀k o,ops[k]?=some o→listed.getD k false=true→(fAt T k).at_ (fun d=>a.tmps.getD d undef) w
 closed:∀k o,ops[k]?=some o→listed.getD k false=true→∀e∈bindE o,listed.getD e.on false=true
section
variable {P:Program} {ops:Array Oper} {T:List Fact} {W:World} {a0:Act} {r:Option Nat} {s:Nat} {Q:Exit→Act→World→Prop}
theorem GInv2.step {listed:Array Bool} {a:Act} {w:World} (K:RegOk ops T) (hsz:∀d∈dsts ops,d<a0.tmps.size) (hst:Zn T) (h:GInv2 ops T W a0 r s listed a w) {i:Nat} {o:Oper} (hi:ops[i]?=some o)
  (hun:listed.getD i false=false) (hwait:∀e∈bindE o,listed.getD e.on false=true) {v:Value} {w':World} (hv:(fAt T i).at_ (upd (fun d=>a.tmps.getD d undef) o.dst v) w')
  (hg:w.grownBy w' none∨(o.dst=none∧W.grownBy w' r∧(i≠s→W.grownBy w none→W.grownBy w' none)∧keeps (fun d=>a.tmps.getD d undef) w w' i T 0)):GInv2 ops T W a0 r s (listed.setIfInBounds i true) (a.put o.dst v) w':=by
 have hdlt:∀d,o.dst=some d→d<a.tmps.size:=fun d hd=>by rw [h.tz];exact hsz d (Yw hi hd)
 have hil:i<listed.size:=by rw [h.sz];exact (Array.getElem?_eq_some_iff.1 hi).1
 have lset:∀k,k≠i→(listed.setIfInBounds i true).getD k false=listed.getD k false:=fun k hk=>by
  simp only [Array.getD_eq_getD_getElem?,Array.getElem?_setIfInBounds,Ne.symm hk,if_false]
 have lold:∀k,listed.getD k false=true→(listed.setIfInBounds i true).getD k false=true:=fun k hk=>by
  by_cases e:k=i
  ·subst e;simp [hil]
  ·rw [lset k e];exact hk
 refine ⟨?_,fun hs => ?_,by simp [h.sz], ?_, ?_,fun t ht => ?_,fun k ok hk hl => ?_,fun k ok hk hl e he => ?_⟩
 ·rcases hg with hg | ⟨_,hg,_⟩
  ·exact gbT h.g (gbW hg)
  ·exact hg
 ·have hsi:i≠s:=fun e=>by subst e;simp [hil] at hs
  rw [lset s (Ne.symm hsi)] at hs
  rcases hg with hg | ⟨_,_,hg,_⟩
  ·exact gbT (h.pre hs) hg
  ·exact hg hsi (h.pre hs)
 ·rw [← h.tz];cases o.dst <;> simp [Act.put]
 ·rw [← h.df];cases o.dst <;> rfl
 ·rw [← h.out t ht]
  cases hd:o.dst with
  | none=>rfl
  | some d =>
   have:d≠t:=fun e=>ht (e ▸ Yw hi hd);simp [Act.put,this]
 ·have hf:(fun d=>(a.put o.dst v).tmps.getD d undef)=upd (fun d=>a.tmps.getD d undef) o.dst v:=by
   funext t;exact Wb a o.dst v t hdlt
  rw [hf]
  by_cases hik:k=i
  ·subst hik
   exact hv
  ·rw [lset k hik] at hl
   have hold:=h.facts k ok hk hl
   have hne:∀t∈(fAt T k).ts,o.dst≠some t:=fun t ht hd=>by
    rcases K.sup k ok hk t ht with h1 | ⟨e,he,o',ho',hd'⟩
    ·exact ZZ K.nodup (l:=ops.toList) (i:=k) (j:=i) (by simpa using hk) (by simpa using hi) hik h1 hd
    ·have h2:=h.closed k ok hk hl e he
     have h3:e.on≠i:=fun x=>by rw [x,hun] at h2;cases h2
     exact ZZ K.nodup (l:=ops.toList) (i:=e.on) (j:=i) (by simpa using ho') (by simpa using hi) h3 hd' hd
   have hmap:(fAt T k).ts.map (upd (fun d=>a.tmps.getD d undef) o.dst v)=(fAt T k).ts.map (fun d=>a.tmps.getD d undef):=List.map_congr_left fun t ht=>YR _ _ _ _ (hne t ht);unfold Fact.at_;rw [hmap]
   rcases hg with hg | ⟨hd,_,_,hk2⟩
   ·exact Xa hst k _ _ _ hold hg
   ·cases hT:T[k]? with
    | none=>unfold fAt;rw [hT];trivial
    | some F =>
     have e:fAt T k=F:=by unfold fAt;rw [hT];rfl
     rw [e] at hold ⊢;exact Wr hk2 hT (by omega) hold
 ·by_cases hik:k=i
  ·subst hik
   obtain rfl:ok=o:=by rw [hi] at hk;injection hk with hk;exact hk.symm
   exact lold _ (hwait e he)
  ·rw [lset k hik] at hl
   exact lold _ (h.closed k ok hk hl e he)
theorem GInv2.is {listed:Array Bool} {a:Act} {w:World} (h:GInv2 ops T W a0 r s listed a w):a=puts a0 (dsts ops) (fun d=>a.tmps.getD d undef):=Vd h.tz h.df h.out
end
section
variable {α β:Type} {F:α→List β} {sz:Nat}
theorem ZI (hF:∀x,(F x).length=sz) (xs:List α):(xs.flatMap F).length=xs.length*sz:=by
 induction xs with
 | nil=>simp
 | cons x xs ih=>rw [List.flatMap_cons,List.length_append,hF,ih,List.length_cons,Nat.succ_mul];omega
theorem YL (hF:∀x,(F x).length=sz):∀(xs:List α) (i j:Nat),j<sz→(xs.flatMap F)[i*sz+j]?=xs[i]?.bind fun x=>(F x)[j]?
 | [],i,j,_=>by simp
 | x :: xs,0,j,hj=>by
  rw [List.flatMap_cons,List.getElem?_append_left (by rw [hF];omega)];simp
 | x :: xs,i+1,j,hj=>by
  rw [List.flatMap_cons,List.getElem?_append_right (by rw [hF,Nat.succ_mul];omega),hF,show (i+1)*sz+j - sz=i*sz+j by rw [Nat.succ_mul];omega,YL hF xs i j hj];simp
theorem Yx (hF:∀x,(F x).length=sz) (hs:0<sz) (xs:List α) (m:Nat):(xs.flatMap F)[m]?=xs[m / sz]?.bind fun x=>(F x)[m % sz]?:=by
 have:=YL hF xs (m / sz) (m % sz) (Nat.mod_lt _ hs)
 rwa [show m / sz*sz+m % sz=m by rw [Nat.mul_comm];exact Nat.div_add_mod m sz] at this
theorem flat_ext (hF:∀x,(F x).length=sz) {xs:List α} {l:List β} (hl:l.length=xs.length*sz) (h:∀i j x,xs[i]?=some x→j<sz→l[i*sz+j]?=(F x)[j]?):l=xs.flatMap F:=by
 apply List.ext_getElem?;intro m
 rcases Nat.eq_zero_or_pos sz with h0 | hs
 ·subst h0
  have h1:l=[]:=List.eq_nil_of_length_eq_zero (by simpa using hl);have h2:xs.flatMap F=[]:=List.eq_nil_of_length_eq_zero (by rw [ZI hF];simp);rw [h1,h2]
 ·rw [Yx hF hs]
  have e:m / sz*sz+m % sz=m:=by rw [Nat.mul_comm];exact Nat.div_add_mod m sz
  cases hx:xs[m / sz]? with
  | some x=>rw [Option.bind_some,← h _ _ x hx (Nat.mod_lt _ hs),e]
  | none =>
   rw [Option.bind_none,List.getElem?_eq_none];rw [hl];have h1:xs.length≤m / sz:=by simpa using hx
   have:=Nat.mul_le_mul_right sz h1;have:=Nat.div_mul_le_self m sz;omega
theorem VH {i n j sz:Nat} (hi:i<n) (hj:j<sz):i*sz+j<n*sz:=by
 have:(i+1)*sz≤n*sz:=Nat.mul_le_mul_right sz hi;rw [Nat.succ_mul] at this;omega
theorem flat_set3 {F:α→List β} (hF:∀x,(F x).length=3) (ys:List α) (k:Nat) (hk:k<ys.length) (x:α) (a b c:β) (hx:F x=[a,b,c]):(((ys.flatMap F).set (k*3) a).set (k*3+1) b).set (k*3+2) c=(ys.set k x).flatMap F:=by
 refine flat_ext hF (by simp [ZI hF]) fun i j y hy hj => ?_;have hl:=ZI hF ys;have hin:i<ys.length:=by have:=(List.getElem?_eq_some_iff.1 hy).1;simpa using this
 simp only [List.getElem?_set,List.length_set] at *;rw [YL hF ys i j hj,hl]
 by_cases e:k=i
 ·subst e
  rw [if_pos rfl,if_pos hk] at hy;injection hy with hy;subst hy;rw [hx]
  rcases (show j=0∨j=1∨j=2 by omega) with rfl | rfl | rfl
  ·rw [if_neg (by omega),if_neg (by omega),if_pos (by omega),if_pos (by omega)];rfl
  ·rw [if_neg (by omega),if_pos rfl,if_pos (by omega)];rfl
  ·rw [if_pos rfl,if_pos (by omega)];rfl
 ·rw [if_neg e] at hy
  rw [if_neg (by omega),if_neg (by omega),if_neg (by omega),hy];rfl
theorem VI (d:α) (xs:List α) (k:Nat) (h:k<xs.length):(xs.take k ++ List.replicate (xs.length - k) d).set k xs[k]=xs.take (k+1) ++ List.replicate (xs.length - (k+1)) d:=by
 rw [List.set_append_right _ _ (by simp;omega)];rw [List.length_take,Nat.min_eq_left (by omega),Nat.sub_self,show xs.length - k=(xs.length - (k+1))+1 by omega,List.replicate_succ,zD,List.take_succ_eq_append_getElem h,List.append_assoc];rfl
end
structure FL {α:Type} (F:α→List Value) (sz:Nat) (w:World) (A:Option Addr) (n:Nat) (xs:List α):Prop where
 len:xs.length=n
 rd:Rd w sz A n (xs.flatMap F)
section
variable {α:Type} {F:α→List Value} {sz:Nat} {w w':World} {A:Option Addr} {n:Nat} {xs:List α}
theorem FL.grown {r:Option Nat} (h:FL F sz w A n xs) (hg:w.grownBy w' r) (hr:Off A r):FL F sz w' A n xs:=⟨h.len,h.rd.grown hg hr⟩
theorem FL.grow (h:FL F sz w A n xs) (hg:w.grownBy w' none):FL F sz w' A n xs:=⟨h.len,h.rd.grow hg⟩
theorem FL.cell (hF:∀x,(F x).length=sz) (h:FL F sz w A n xs) {k:Nat} (hk:k<n) (hs:0<sz) :
  ∃(b o:Nat) (x:α),A=some ⟨b,o,none⟩∧b<w.heap.size∧xs[k]?=some x∧∀j,j<sz→w.cell? ⟨b,o+(k*sz+j),none⟩=(F x)[j]?:=by
 obtain ⟨b,o,rfl,hb,hc⟩:=h.rd.2 (by omega);have hl:=h.len;refine ⟨b,o,xs[k],rfl,hb,List.getElem?_eq_getElem (by omega),fun j hj => ?_⟩;rw [hc _ (VH hk hj),YL hF xs k j hj,List.getElem?_eq_getElem (by omega)];rfl
theorem FL.ofOwn {base c:Nat} {e:TypeId} (hl:xs.length=n) (h:w.ownsRow base e sz (.slice A n c) n (xs.flatMap F)):FL F sz w A n xs:=⟨hl,Rd.ofOwn h⟩
theorem FL.nil (w:World) (A:Option Addr):FL F sz w A 0 []:=⟨rfl,by simp [Rd]⟩
end
theorem made_flat {α:Type} {F:α→List Value} {sz:Nat} (hF:∀x,(F x).length=sz) (hs:0<sz) (d:α) (z:Array Value) (hz:z.toList=F d) (n:Nat):(madeCells z (n*sz)).toList=(List.replicate n d).flatMap F:=by
 have hzs:z.size=sz:=by rw [← Array.length_toList,hz,hF]
 refine flat_ext hF (by simp [size_madeCells]) fun i j x hx hj => ?_
 have hi:i<n∧x=d:=by
  rw [List.getElem?_replicate] at hx
  split at hx
  ·injection hx with hx;exact ⟨by assumption,hx.symm⟩
  ·cases hx
 obtain ⟨hi,rfl⟩:=hi;have hlt:=VH hi hj;have hm:(i*sz+j) % sz=j:=by rw [Nat.mul_comm,Nat.mul_add_mod,Nat.mod_eq_of_lt hj]
 have hzj:j<z.size:=by omega
 rw [← hz];simp [madeCells,hlt,hzs,hm];rw [getElem!_pos z j hzj,Array.getElem?_eq_getElem hzj]
def c2 (t:Int × Int):List Value:=[.int .i64 t.1,.int .i64 t.2]
def c3 (t:Int × Int × Int):List Value:=[.int .i64 t.1,.int .i64 t.2.1,.int .i64 t.2.2]
theorem WU (t:Int × Int × Int):(c3 t).length=3:=rfl
def i64w (n:Int):Prop:=-9223372036854775808≤n∧n≤9223372036854775807
def w2 (x:Int × Int):Prop:=i64w x.1∧i64w x.2
def w3 (x:Int × Int × Int):Prop:=i64w x.1∧i64w x.2.1∧i64w x.2.2
end Go.Proofs.YthaadgdeadbhkaaGreat
