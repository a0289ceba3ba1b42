/-
 A struct's block of one's own: what its cells hold,whose blocks these are;a cell stored anew,a cell's row changed.
-/
import Derived.Test.YthaadgdeadbhkaaGreatMgFnExactCountOutcomes15
open Go.RowKit
set_option linter.unusedVariables false
set_option linter.unusedSimpArgs false
namespace Go.Proofs.YthaadgdeadbhkaaGreat
def SOF (T:TypeId) (cs:List CS) (g:Nat) (F:List Nat) (w:World):Prop:=∃vs Fs,Blk w g T vs.toArray∧OwnAll w cs vs Fs∧F=Fs.flatten∧g∉F
section
variable {T:TypeId} {cs:List CS} {g:Nat} {F:List Nat} {w w':World}
theorem SOF.chg {S:Nat→Prop} (h:SOF T cs g F w) (k:Chg S w w') (hF:∀x∈F,¬S x) (hg:¬S g):SOF T cs g F w':=by
 obtain ⟨vs,Fs,h1,h2,rfl,h4⟩:=h;exact ⟨vs,Fs,h1.chg k hg,h2.kept fun x hx=>k.block x (h2.lt x hx) (hF x hx),rfl,h4⟩
theorem SOF.grow (h:SOF T cs g F w) (k:w.grownBy w' none):SOF T cs g F w':=h.chg (S:=fun _=>False) (Chg.of k (by simp)) (fun _ _=>id) id
theorem SOF.lt (h:SOF T cs g F w):∀x∈F,x<w.heap.size:=by
 obtain ⟨vs,Fs,h1,h2,rfl,h4⟩:=h;exact h2.lt
theorem SOF.ltg (h:SOF T cs g F w):g<w.heap.size:=by
 obtain ⟨vs,Fs,h1,h2,rfl,h4⟩:=h;exact h1.lt
theorem SOF.out (h:SOF T cs g F w):g∉F:=by
 obtain ⟨vs,Fs,h1,h2,rfl,h4⟩:=h;exact h4
theorem SOF.agg (h:SOF T cs g F w):∃vs:List Value,Blk w g T vs.toArray∧AggO w cs F (.agg vs.toArray):=by
 obtain ⟨vs,Fs,h1,h2,rfl,h4⟩:=h;exact ⟨vs,h1,vs,Fs,rfl,h2,rfl⟩
theorem SOF.made {vs:List Value} (B:Blk w g T vs.toArray) (h:AggO w cs F (.agg vs.toArray)) (hn:g∉F):SOF T cs g F w:=by
 obtain ⟨us,Fs,e,h1,rfl⟩:=h;injection e with e;have e:us=vs:=by have:=congrArg Array.toList e;simpa using this.symm
 subst e;exact ⟨us,Fs,B,h1,rfl,hn⟩
theorem SOF.at_ (h:SOF T cs g F w) {i:Nat} {c:CS} (hc:cs[i]?=some c) :
  ∃u Fi,w.cell? ⟨g,i,none⟩=some u∧w.frozen? ⟨g,i,none⟩=false∧c.own w Fi u∧(∀x∈Fi,x∈F)∧g∉Fi ∧
   (∀(w':World) (c':CS) (u':Value) (Fi':List Nat),Chg (fun x=>x∈Fi) w w'→c'.own w' Fi' u'→(∀x∈Fi',x∈Fi∨w.heap.size≤x)→∃F',SOF T (cs.set i c') g F' (w'.setCell ⟨g,i,none⟩ u')∧∀x∈F',x∈F∨w.heap.size≤x) ∧
   (∀(w':World) (c':CS) (Fi':List Nat),Chg (fun x=>x∈Fi) w w'→c'.own w' Fi' u→(∀x∈Fi',x∈Fi∨w.heap.size≤x)→∃F',SOF T (cs.set i c') g F' w'∧∀x∈F',x∈F∨w.heap.size≤x):=by
 obtain ⟨vs,Fs,h1,h2,rfl,h4⟩:=h;have hi:=(List.getElem?_eq_some_iff.1 hc).1;obtain ⟨c0,u,Fi,e1,e2,e3,ho⟩:=h2.get hi;rw [hc] at e1;injection e1 with e1;subst e1;have hi':i<Fs.length:=by rw [h2.lf];exact hi
 have hFi:Fs.getD i []=Fi:=by rw [zF,e3];rfl
 have hmem:∀x∈Fi,x∈Fs.flatten:=fun x hx=>VE e3 hx;have hgi:g∉Fi:=fun hx=>h4 (hmem g hx);have hcell:=h1.cell i;have hlv:=h2.lv;have hgl:=h1.lt
 have hset:∀(w':World) (c':CS) (u':Value) (Fi':List Nat),Chg (fun x=>x∈Fi) w w'→c'.own w' Fi' u'→(∀x∈Fi',x∈Fi∨w.heap.size≤x)→OwnAll w' (cs.set i c') (vs.set i u') (Fs.set i Fi')∧(∀x∈(Fs.set i Fi').flatten,x∈Fs.flatten∨w.heap.size≤x)∧g∉(Fs.set i Fi').flatten:=fun w' c' u' Fi' hch ho' hsub=>by
  have a1:=h2.set_ (i:=i) hi (w':=w') ho' (fun x hx hx'=>hch.block x (h2.lt x hx) (by rw [hFi] at hx';exact hx')) (fun x hx hx'=>by
   rw [hFi]
   rcases hsub x hx with h6 | h6
   ·exact h6
   ·have:=h2.lt x hx';omega)
  have a2:∀x∈(Fs.set i Fi').flatten,x∈Fs.flatten∨w.heap.size≤x:=fun x hx=>by
   rcases Vp hi' hx with h6 | h6
   ·exact .inl h6
   ·exact (hsub x h6).imp (hmem x) id
  refine ⟨a1,a2,fun hx => ?_⟩
  rcases a2 g hx with h6 | h6
  ·exact h4 h6
  ·omega
 refine ⟨u,Fi, ?_,h1.frozen i,ho,hmem,hgi,fun w' c' u' Fi' hch ho' hsub => ?_,fun w' c' Fi' hch ho' hsub => ?_⟩
 ·rw [hcell]
  simpa using e2
 ·obtain ⟨a1,a2,a3⟩:=hset w' c' u' Fi' hch ho' hsub
  have hb:=((h1.chg hch hgi).set_ i u');refine ⟨_,⟨vs.set i u',Fs.set i Fi',by simpa using hb,a1.kept fun x hx=>Below.heap_setCell w' ⟨g,i,none⟩ u' x (fun e=>a3 (by have e':x=g:=e;rw [e'] at hx;exact hx)),rfl,a3⟩,a2⟩
 ·obtain ⟨a1,a2,a3⟩:=hset w' c' u Fi' hch ho' hsub
  have hvs:vs.set i u=vs:=by
   apply List.ext_getElem?;intro j;rw [List.getElem?_set]
   split
   ·rename_i e;subst e;rw [e2,if_pos (by rw [hlv];exact hi)]
   ·rfl
  rw [hvs] at a1;exact ⟨_,⟨vs,Fs.set i Fi',h1.chg hch hgi,a1,rfl,a3⟩,a2⟩
theorem SOF.put (h:SOF T cs g F w) {i:Nat} {c c':CS} {u':Value} (hc:cs[i]?=some c) (ho:∀w,c'.own w [] u'):∃F',SOF T (cs.set i c') g F' (w.setCell ⟨g,i,none⟩ u')∧∀x∈F',x∈F∨w.heap.size≤x:=by
 obtain ⟨u,Fi,_,_,_,_,_,h6,_⟩:=h.at_ hc;exact h6 w c' u' [] (Chg.refl _ _) (ho w) (by simp)
end
theorem XZ {vs:List AuM} {g n c:Nat} {F:List Nat} {w:World} (h:(cauths vs).own w F (.slice (some ⟨g,0,none⟩) n c)) {i:Nat} (hi:i<vs.length) {x:AuM} {u0 u1:Value} {Fx:List Nat} (hx:AggO w (cauth x) Fx (.agg #[u0,u1])) (hd:∀y∈Fx,y∉F) :
  ∃F',(cauths (vs.set i x)).own ((w.setCell ⟨g,i*2,none⟩ u0).setCell ⟨g,i*2+1,none⟩ u1) F' (.slice (some ⟨g,0,none⟩) n c)∧∀y∈F',y∈F∨y∈Fx:=by
 obtain ⟨t0,t1,F0,F1,e,rfl,o0,o1,d⟩:=Ui hx;injection e with e;injection e with e;injection e with e0 e;injection e with e1 _;subst e0;subst e1;simp only [List.flatten_cons,List.flatten_nil,List.append_nil,List.mem_append] at hd;have hlen:(vs.flatMap cauth).length=vs.length*2:=YT (sz:=2) (fun _=>rfl) vs;have hgF:g∈F:=row_ob h rfl;obtain ⟨F',k1,k2⟩:=row_set (i:=i*2) h (by rw [hlen];omega) o0 (fun y hy=>hd y (.inl hy));have hg0:g∉F0:=fun hy=>hd g (.inl hy) hgF;have hg1:g∉F1:=fun hy=>hd g (.inr hy) hgF
 obtain ⟨F'',m1,m2⟩:=row_set (i:=i*2+1) k1 (by rw [List.length_set,hlen];omega) (UC _ o1 g (i*2) hg1 u0) (fun y hy hy'=>by
  rcases k2 y hy' with h6 | h6
  ·exact hd y (.inr hy) h6
  ·exact d y h6 hy)
 have hfl:((vs.flatMap cauth).set (i*2) (cints x.sh)).set (i*2+1) (cints x.mc)=(vs.set i x).flatMap cauth:=by
  apply List.ext_getElem?;intro j;have hm:j % 2<2:=Nat.mod_lt _ (by omega);rw [List.getElem?_set,List.getElem?_set,List.length_set,hlen,Ko (sz:=2) (fun _=>rfl) (by omega) vs,Ko (sz:=2) (fun _=>rfl) (by omega) (vs.set i x)];rw [List.getElem?_set]
  by_cases e:i=j / 2
  ·subst e
   rw [if_pos rfl,if_pos hi]
   rcases Nat.lt_or_ge (j % 2) 1 with h6 | h6
   ·have h7:j % 2=0:=by omega
    rw [if_neg (by omega),if_pos (by omega),if_pos (by omega),h7];rfl
   ·have h7:j % 2=1:=by omega
    rw [if_pos (by omega),if_pos (by omega),h7];rfl
  ·rw [if_neg e,if_neg (by omega),if_neg (by omega)]
 refine ⟨F'',by rw [hfl] at m1;exact m1,fun y hy => ?_⟩
 rcases m2 y hy with h6 | h6
 ·rcases k2 y h6 with h7 | h7
  ·exact .inl h7
  ·exact .inr (by simp [h7])
 ·exact .inr (by simp [h6])
theorem Zo {P:List Value→World→Prop} {ts:List Tmp} (h:∀l w w',P l w→w.grownBy w' none→P l w'):Uc ⟨ts,P⟩:=fun l w w' a b=>h l w w' a b
theorem Chg.join {S T:Nat→Prop} {a b c:World} (h:Chg S a b) (k:Chg T b c) (hT:∀i,T i→S i∨a.heap.size≤i):Chg S a c :=
 ⟨k.os.trans h.os,k.tape.trans h.tape,k.output.trans h.output,Nat.le_trans h.size k.size,fun i hi hs=>(k.block i (Nat.lt_of_lt_of_le hi h.size) (fun ht=>by
  rcases hT i ht with h1 | h1
  ·exact hs h1
  ·omega)).trans (h.block i hi hs)⟩
theorem gb6 {ops:Array Oper} {W w:World} {g k K:Nat} (hG:Chg (fun b=>∃s,(s,b)∈[(K,g)]) W w) (pre:∀b,b<W.heap.size→(∀s,(s,b)∈[(K,g)]→aheadB ops s k=true)→w.heap[b]?=W.heap[b]?) (ha:aheadB ops K k=true):W.grownBy w none :=
 ⟨hG.os,hG.tape,hG.output,hG.size,fun i hi _=>pre i hi fun s hs=>by
  simp only [List.mem_cons,List.not_mem_nil,or_false,Prod.mk.injEq] at hs
  rw [hs.1];exact ha⟩
theorem Yh {T:List Fact} {f:Tmp→Value} {w:World}:∀{l:List Fact} {i:Nat} {F:Fact},knowsF T f w l→l[i]?=some F→F.at_ f w
 | [],_,_,_,h=>by simp at h
 | G :: l,0,F,hk,h=>by simp at h;subst h;exact hk.1
 | G :: l,i+1,F,hk,h=>Yh (i:=i) hk.2 (by simpa using h)
def ownF (lo:Nat) (c:CS) (v:Value) (w:World):Prop:=∃F,c.own w F v∧∀x∈F,lo≤x
def aggF (lo:Nat) (cs:List CS) (v:Value) (w:World):Prop:=∃F,AggO w cs F v∧∀x∈F,lo≤x
theorem ownF_st {lo:Nat} {c:CS}:stable (ownF lo c):=fun v w w' ⟨F,h1,h2⟩ hg=>⟨F,Zi _ h1 hg,h2⟩
theorem YG {lo:Nat} {cs:List CS}:stable (aggF lo cs):=fun v w w' ⟨F,h1,h2⟩ hg=>⟨F,h1.grow hg,h2⟩
theorem ownF.grow {lo:Nat} {c:CS} {v:Value} {w w':World} (h:ownF lo c v w) (hg:w.grownBy w' none):ownF lo c v w':=ownF_st v w w' h hg
theorem aggF.grow {lo:Nat} {cs:List CS} {v:Value} {w w':World} (h:aggF lo cs v w) (hg:w.grownBy w' none):aggF lo cs v w':=YG v w w' h hg
theorem ownF.lo {lo lo':Nat} {c:CS} {v:Value} {w:World} (h:ownF lo c v w) (hl:lo'≤lo):ownF lo' c v w:=by
 obtain ⟨F,h1,h2⟩:=h;exact ⟨F,h1,fun x hx=>Nat.le_trans hl (h2 x hx)⟩
theorem aggF.lo {lo lo':Nat} {cs:List CS} {v:Value} {w:World} (h:aggF lo cs v w) (hl:lo'≤lo):aggF lo' cs v w:=by
 obtain ⟨F,h1,h2⟩:=h;exact ⟨F,h1,fun x hx=>Nat.le_trans hl (h2 x hx)⟩
theorem aggF.rd {lo:Nat} {cs:List CS} {v:Value} {w:World} (h:aggF lo cs v w):AggR w cs v:=by
 obtain ⟨F,h1,_⟩:=h;exact h1.rd
theorem ownF.ints {lo n:Nat} {xs:List Int} {v:Value} {w:World} (h:w.ownsRow lo 3 1 v n (xs.map (Value.int .i64))):ownF lo (cints xs) v w :=
 ⟨_,Ya h,fun x hx=>(h.lt x (by simpa using hx)).1⟩
def ownL (lo:Nat) (cs:List CS) (vs:List Value) (w:World):Prop:=∃Fs,OwnAll w cs vs Fs∧∀x∈Fs.flatten,lo≤x
theorem ownL.grow {lo:Nat} {cs:List CS} {vs:List Value} {w w':World} (h:ownL lo cs vs w) (hg:w.grownBy w' none):ownL lo cs vs w':=by
 obtain ⟨Fs,h1,h2⟩:=h;exact ⟨Fs,Qw h1 hg,h2⟩
theorem ownF.one {lo:Nat} {c:CS} {v:Value} {w:World} (h:ownF lo c v w):ownL lo [c] [v] w:=by
 obtain ⟨F,h1,h2⟩:=h;exact ⟨[F],OwnAll.cons h1 (OwnAll.nil _) (by simp),fun x hx=>h2 x (by simpa using hx)⟩
theorem aggF.all {lo:Nat} {cs:List CS} {vs:List Value} {w:World} (h:aggF lo cs (.agg vs.toArray) w):ownL lo cs vs w:=by
 obtain ⟨F,⟨us,Fs,e,h1,rfl⟩,h2⟩:=h;injection e with e;have e:us=vs:=by have:=congrArg Array.toList e;simpa using this.symm
 subst e;exact ⟨Fs,h1,h2⟩
theorem ownL.agg {lo:Nat} {cs:List CS} {vs:List Value} {w:World} (h:ownL lo cs vs w):aggF lo cs (.agg vs.toArray) w:=by
 obtain ⟨Fs,h1,h2⟩:=h;exact ⟨_,⟨vs,Fs,rfl,h1,rfl⟩,h2⟩
theorem ownL.pl {lo:Nat} {x:Value} {cs:List CS} {vs:List Value} {w:World} (h:ownL lo cs vs w) (hx:x.oneCell'=true):ownL lo (CS.pl x :: cs) (x :: vs) w:=by
 obtain ⟨Fs,h1,h2⟩:=h;exact ⟨[] :: Fs,OwnAll.cons ⟨rfl,rfl,hx⟩ h1 (by simp),fun x hx=>h2 x (by simpa using hx)⟩
theorem ownL.nil (lo:Nat) (w:World):ownL lo [] [] w:=⟨[],OwnAll.nil w,by simp⟩
theorem ownL.app {lo:Nat} {cs ds:List CS} {us vs:List Value} {w w':World} (h:ownL lo cs us w) (hg:w.grownBy w' none) (k:ownL w.heap.size ds vs w') (hl:lo≤w.heap.size):ownL lo (cs ++ ds) (us ++ vs) w':=by
 obtain ⟨Fs,h1,h2⟩:=h;obtain ⟨Gs,k1,k2⟩:=k;refine ⟨Fs ++ Gs,OwnAll.append (Qw h1 hg) k1 (fun x hx hx' => ?_),fun x hx => ?_⟩
 ·have:=h1.lt x hx
  have:=k2 x hx';omega
 ·rw [List.flatten_append] at hx
  rcases List.mem_append.1 hx with hx | hx
  ·exact h2 x hx
  ·have:=k2 x hx;omega
def sofF (lo:Nat) (T:TypeId) (cs:List CS) (g:Nat) (w:World):Prop:=∃F,SOF T cs g F w∧∀x∈F,lo≤x
theorem sofF.grow {lo:Nat} {T:TypeId} {cs:List CS} {g:Nat} {w w':World} (h:sofF lo T cs g w) (hg:w.grownBy w' none):sofF lo T cs g w':=by
 obtain ⟨F,h1,h2⟩:=h;exact ⟨F,h1.grow hg,h2⟩
theorem SOF.store {T:TypeId} {cs:List CS} {g:Nat} {F:List Nat} {w:World} {us:List Value} {old:Array Value} (B:Blk w g T old) (hl:old.size=us.length) (h:AggO w cs F (.agg us.toArray)) (hn:g∉F):SOF T cs g F (Zm w g 0 us) :=
 SOF.made (Zd B us hl) (h.chg (Za g us 0 w) (fun x hx e=>hn (e ▸ hx))) hn
theorem Vi {w:World} {cs:List CS} {F:List Nat} {vs:List Value} (h:AggO w cs F (.agg vs.toArray)):vs.length=cs.length:=by
 obtain ⟨us,Fs,e,h1,rfl⟩:=h;injection e with e;have e:us=vs:=by have:=congrArg Array.toList e;simpa using this.symm
 subst e;exact h1.lv
def tyd (Ts:List TypeId) (c:CS):Prop:=∀(w:World) (F:List Nat) (v:Value),c.own w F v→∀x∈F,∃cur T z,w.heap[x]?=some (.cells cur T z)∧T∈Ts
theorem KP {Ts:List TypeId} {x:Value}:tyd Ts (CS.pl x):=fun w F v h y hy=>by
 rw [h.1] at hy
 cases hy
theorem KQ {Ts:List TypeId} {w:World} {cs:List CS} {vs:List Value} {Fs:List (List Nat)} (h:OwnAll w cs vs Fs) (hc:∀c∈cs,tyd Ts c):∀x∈Fs.flatten,∃cur T z,w.heap[x]?=some (.cells cur T z)∧T∈Ts:=by
 intro x hx;obtain ⟨F,hF,hxF⟩:=List.mem_flatten.1 hx;obtain ⟨i,hi⟩:=List.mem_iff_getElem?.1 hF;have hl:=(List.getElem?_eq_some_iff.1 hi).1;obtain ⟨c,v,F',e1,e2,e3,ho⟩:=h.get (i:=i) (by rw [← h.lf];exact hl);rw [hi] at e3;injection e3 with e3;subst e3;exact hc c (List.mem_of_getElem? e1) w _ _ ho x hxF
theorem tyd_row {Ts:List TypeId} {e:TypeId} {s:Nat} {cs:List CS} (he:e∈Ts) (hc:∀c∈cs,tyd Ts c):tyd Ts (row e s cs):=by
 intro w F v h x hx;obtain ⟨n,vs,Fs,h1,h2,h3,h4,h5⟩:=h;rw [h4] at hx
 rcases List.mem_append.1 hx with hx | hx
 ·have hx:v.ownBlock=some x:=by simpa using hx
  rcases h2.2 with ⟨e1,_⟩ | ⟨g,cap,cur,hv,_,hg,_⟩
  ·rw [e1] at hx;cases hx
  ·rw [hv] at hx
   have:g=x:=by simpa [Value.ownBlock] using hx
   subst this;exact ⟨_,_,_,hg,he⟩
 ·exact KQ h3 hc x hx
theorem Xd {Ts:List TypeId} {α:Type} {e:TypeId} {s:Nat} {f:α→List Value} {xs:List α} (he:e∈Ts):tyd Ts (plst e s f xs):=tyd_row he fun c hc=>by
 obtain ⟨x,_,hx⟩:=List.mem_flatMap.1 hc;obtain ⟨u,_,rfl⟩:=List.mem_map.1 hx;exact KP
theorem tyd_cauths {Ts:List TypeId} {xs:List AuM} (h1:3∈Ts) (h2:80∈Ts):tyd Ts (cauths xs):=tyd_row h2 fun c hc=>by
 obtain ⟨x,_,hx⟩:=List.mem_flatMap.1 hc;simp only [List.mem_cons,List.not_mem_nil,or_false] at hx
 rcases hx with rfl | rfl
 ·exact Xd h1
 ·exact Xd h1
theorem WR {Ts:List TypeId} {w:World} {cs:List CS} {F:List Nat} {v:Value} {g:Nat} {T:TypeId} {us:Array Value} (hc:∀c∈cs,tyd Ts c) (h:AggO w cs F v) (B:Blk w g T us) (hT:T∉Ts):g∉F:=by
 obtain ⟨vs,Fs,rfl,h1,rfl⟩:=h;intro hg;obtain ⟨cur,T',z,e,hT'⟩:=KQ h1 hc g hg;unfold Blk at B;rw [B] at e;injection e with e;injection e with _ e2 _;exact hT (e2 ▸ hT')
theorem own_ty {Ts:List TypeId} {w:World} {c:CS} {F:List Nat} {v:Value} {g:Nat} {T:TypeId} {us:Array Value} (hc:tyd Ts c) (h:c.own w F v) (B:Blk w g T us) (hT:T∉Ts):g∉F:=by
 intro hg;obtain ⟨cur,T',z,e,hT'⟩:=hc w F v h g hg;unfold Blk at B;rw [B] at e;injection e with e;injection e with _ e2 _;exact hT (e2 ▸ hT')
attribute [local simp] depsC dstAt kAt bindE List.filter_cons Zz Zq Zr Zs ZA ZW puts dsts Act.put
theorem awf_use {k:KM} {x:TrM} {d e:Int} (h:twf x):awf (ZJ k x d e):=by
 unfold ZJ
 split
 ·exact awf_const (Xn (Xn h.2.2))
 ·exact Jr
set_option maxHeartbeats 4000000 in
set_option maxRecDepth 100000 in
theorem KR (k:KM) (x:TrM) (d e:Int) (kv xv:Value) (w0:World) (h:AggR w0 (ckeys k) kv) (hx:AggR w0 (YA x) xv) (wk:kwf k) (wx:twf x) :
  Calls Tryz.prog 72 #[kv,xv,.agg #[.int .i64 d,.int .i64 e]] w0 fun r w'=>∃v,r=.returned v∧autF w0.heap.size (ZJ k x d e) v w'∧w0.grownBy w' none:=by
 obtain ⟨A,c,rfl,hc,hm,hI⟩:=ZG h;obtain ⟨A1,a1,A2,a2,B1,b1,B2,b2,C1,c1,C2,c2,rfl,ha,hb,hcc⟩:=XX hx;have hpw:=wk.1;obtain ⟨wp1,wp2⟩:=hpw;obtain ⟨w1,hw1⟩:∃y:World,(((w0.alloc (.cells #[.int .i64 k.p,.slice A k.al.length c] 34)).alloc (.cells #[.slice A1 x.a.sh.length a1,.slice A2 x.a.mc.length a2,.slice B1 x.b.sh.length b1,.slice B2 x.b.mc.length b2,.slice C1 x.c.sh.length c1,.slice C2 x.c.mc.length c2] 82)).alloc (.cells #[.int .i64 d,.int .i64 e] 104)).alloc (.cells #[.slice none 0 0,.slice none 0 0] 80)=y:=⟨_,rfl⟩;have G1:Hid (w0.grownBy w1 none):=by rw [← hw1];exact gbA (gbA (gbA (gbA (gbR _ _) _) _) _) _
 have z1:Hid (w1.heap.size=w0.heap.size+4):=by rw [← hw1];exact zH (by simp)
 have D0:Hid (Blk w1 w0.heap.size 34 #[.int .i64 k.p,.slice A k.al.length c]):=by rw [← hw1];exact (((Blk.new w0 _ _).grow (gbA (gbR _ _) _)).grow (gbA (gbR _ _) _)).grow (gbA (gbR _ _) _)
 have D1:Hid (Blk w1 (w0.heap.size+1) 82 #[.slice A1 x.a.sh.length a1,.slice A2 x.a.mc.length a2,.slice B1 x.b.sh.length b1,.slice B2 x.b.mc.length b2,.slice C1 x.c.sh.length c1,.slice C2 x.c.mc.length c2]):=by rw [← hw1];exact ((Blk.new' _ _ _ _ (by simp)).grow (gbA (gbR _ _) _)).grow (gbA (gbR _ _) _)
 have D2:Hid (Blk w1 (w0.heap.size+1+1) 104 #[.int .i64 d,.int .i64 e]):=by rw [← hw1];exact (Blk.new' _ _ _ _ (by simp)).grow (gbA (gbR _ _) _)
 have D3:Hid (Blk w1 (w0.heap.size+1+1+1) 80 #[.slice none 0 0,.slice none 0 0]):=by rw [← hw1];exact Blk.new' _ _ _ _ (by simp)
 have HK:=zH (AggR.grow h G1.out);have HAa:=zH (AggR.grow ha G1.out);have HAb:=zH (AggR.grow hb G1.out);have HAc:=zH (AggR.grow hcc G1.out);have WK:=zH wk;have WA:=zH wx.1;have WB:=zH wx.2.1;have WC:=zH wx.2.2;clear h hx ha hb hcc hI wk wx;have HFO:Hid (ZJ k x d e=if (formB k x.a&&formB k x.b&&formB k x.c)&&(elemB k.p d&&elemB k.p e) then ZH k (ZD k (ZD k x.c (Zk k x.b d)) (Zk k x.a e)) ((d*e) % k.p) else noA):=rfl
 go_enter Tryz.func72,Tryz.ntmps72
 have k0:=D0.out.cell 0;have k1:=D0.out.cell 1;have x0:=D1.out.cell 0;have x1:=D1.out.cell 1;have x2:=D1.out.cell 2;have x3:=D1.out.cell 3;have x4:=D1.out.cell 4;have x5:=D1.out.cell 5;have y0:=D2.out.cell 0;have y1:=D2.out.cell 1;simp at k0 k1 x0 x1 x2 x3 x4 x5 y0 y1;go_wp2_with fail;clear k0 k1 x0 x1 x2 x3 x4 x5 y0 y1 hw1;obtain ⟨VL,hVL⟩:∃l:List Value,l=[.slice A1 x.a.sh.length a1,.slice A2 x.a.mc.length a2,.slice B1 x.b.sh.length b1,.slice B2 x.b.mc.length b2,.slice C1 x.c.sh.length c1,.slice C2 x.c.mc.length c2]:=⟨_,rfl⟩;have HL:=zH (Uk (w:=w1) [x.a,x.b,x.c] VL 3 (by rw [hVL];exact RdAll.append2 (VY (vs:=[_,_]) HAa.out) (RdAll.append2 (VY (vs:=[_,_]) HAb.out) (by simpa using VY (vs:=[_,_]) HAc.out))) rfl (by omega));rw [hVL] at HL;have GL:=zH (gbA (gbR w1 none) (.cells #[.slice A1 x.a.sh.length a1,.slice A2 x.a.mc.length a2,.slice B1 x.b.sh.length b1,.slice B2 x.b.mc.length b2,.slice C1 x.c.sh.length c1,.slice C2 x.c.mc.length c2] 80))
 have HAL:Hid (([x.a,x.b,x.c].all (formA k)&&keysB k)=(formB k x.a&&formB k x.b&&formB k x.c)):=by
  unfold Hid formB;simp only [List.all_cons,List.all_nil,Bool.and_true]
  cases keysB k <;> simp [Bool.and_assoc]
 refine (YR k [x.a,x.b,x.c] _ _ 3 3 _ (AggR.grow HK.out GL.out) HL.out WK.out (by intro y hy;simp at hy;rcases hy with rfl | rfl | rfl <;> first | exact WA.out | exact WB.out | exact WC.out) (by omega)).mono ?_;rintro r wz ⟨rfl,g2⟩;have gz:=gbT GL.out g2;clear g2 HL GL hVL;rw [HAL.out]
 cases hfabc:(formB k x.a&&formB k x.b&&formB k x.c)
 ·rw [hfabc] at HFO
  have RS:=zH (Zd (D3.out.grow gz) [.slice none 0 0,.slice none 0 0] rfl);have CH:=zH (Za (w0.heap.size+1+1+1) [.slice none 0 0,.slice none 0 0] 0 wz);have r0:=(D3.out.grow gz).cell 0;have r1:=(D3.out.grow gz).cell 1;have s0:=(D3.out.grow gz).frozen 0;have s1:=(D3.out.grow gz).frozen 1;simp at r0 r1;have GG:=zH (gbT G1.out gz);clear gz;go_wp2_with fail;refine YJ Tryz.results72 (by rfl) stAuth (cs:=#[.slice none 0 0,.slice none 0 0]) RS.out (by rfl) (by rfl) ?_;exact ⟨_,rfl,by rw [HFO.out];exact ⟨_,Xy _,by simp⟩,Zu GG.out CH.out (by omega)⟩
 obtain ⟨hfab,hfc⟩:=Bool.and_eq_true_iff.1 hfabc;obtain ⟨hfa,hfb⟩:=Bool.and_eq_true_iff.1 hfab;rw [hfabc] at HFO;clear hfabc hfab HAL;have k0:=(D0.out.grow gz).cell 0;have y0:=(D2.out.grow gz).cell 0;have y1:=(D2.out.grow gz).cell 1;simp at k0 y0 y1;have Gz:=zH gz;clear gz;go_wp2_with fail;clear k0 y0 y1;refine (Zp k.p _ 2 2 [d,e] _ (by omega) (by omega) (ints2 wz 3 d e) (by omega)).mono ?_;rintro r wy ⟨rfl,hy⟩;have gy:wz.grownBy wy none:=by rw [← hy];exact gbA (gbR _ _) _
 clear hy;have gy:=gbT Gz.out gy;clear Gz;rw [XU]
 cases hde:(elemB k.p d&&elemB k.p e)
 ·rw [hde] at HFO
  have RS:=zH (Zd (D3.out.grow gy) [.slice none 0 0,.slice none 0 0] rfl);have CH:=zH (Za (w0.heap.size+1+1+1) [.slice none 0 0,.slice none 0 0] 0 wy);have r0:=(D3.out.grow gy).cell 0;have r1:=(D3.out.grow gy).cell 1;have s0:=(D3.out.grow gy).frozen 0;have s1:=(D3.out.grow gy).frozen 1;simp at r0 r1;have GG:=zH (gbT G1.out gy);clear gy;go_wp2_with fail;refine YJ Tryz.results72 (by rfl) stAuth (cs:=#[.slice none 0 0,.slice none 0 0]) RS.out (by rfl) (by rfl) ?_;exact ⟨_,rfl,by rw [HFO.out];exact ⟨_,Xy _,by simp⟩,Zu GG.out CH.out (by omega)⟩
 rw [hde,Bool.and_self,if_pos rfl] at HFO;obtain ⟨hd1,he1⟩:=Bool.and_eq_true_iff.1 hde;clear hde;have E0:=zH (D0.out.grow gy);have E1:=zH (D1.out.grow gy);have E2:=zH (D2.out.grow gy);have E3:=zH (D3.out.grow gy);have GW:=zH (gbT G1.out gy);have KK:=zH (AggR.grow HK.out gy);have KA:=zH (AggR.grow HAa.out gy);have KB:=zH (AggR.grow HAb.out gy);have KC:=zH (AggR.grow HAc.out gy);have zy:Hid (w0.heap.size+4≤wy.heap.size):=by have:=z1.out;have:=gy.size;exact zH (by omega)
 clear D0 D1 D2 D3 HK HAa HAb HAc G1 z1 gy;go_wp2_with fail;obtain ⟨lo,hlo⟩:∃lo,w0.heap.size+4=lo:=⟨_,rfl⟩;have hlz:lo≤wy.heap.size:=by have:=zy.out;omega
 refine Zg [.rd (.agg #[.int .i64 k.p,.slice A k.al.length c]),.rd (.pointer (some ⟨w0.heap.size+1,4,none⟩)),.rd (.agg #[.slice C1 x.c.sh.length c1,.slice C2 x.c.mc.length c2]),.rd (.agg #[.int .i64 k.p,.slice A k.al.length c]),.rd (.pointer (some ⟨w0.heap.size+1,2,none⟩)),.rd (.agg #[.slice B1 x.b.sh.length b1,.slice B2 x.b.mc.length b2]),.rd (.pointer (some ⟨w0.heap.size+1+1,0,none⟩)),.rd (.int .i64 d),.fl (autF lo (Zk k x.b d)),.fl (autF lo (ZD k x.c (Zk k x.b d))),.fl (isBox wy.heap.size 80 #[.slice none 0 0,.slice none 0 0]),.ch] (fun _=>False)
  [⟨[],fun _ w'=>wy.drew.grownBy w' none⟩,
   ⟨[7],fun l w'=>authBox wy.heap.size lo (ZD k x.c (Zk k x.b d)) (l.getD 0 undef) w'∧wy.drew.grownBy w' none⟩]
  (by kernel_rfl) (by kernel_rfl) (by kernel_rfl) 1 (by kernel_rfl) ?_ (gbR _ _) rfl ?_ ?_
 ·have hst:Zw [⟨[],fun _ w'=>wy.drew.grownBy w' none⟩,
   ⟨[7],fun l w'=>authBox wy.heap.size lo (ZD k x.c (Zk k x.b d)) (l.getD 0 undef) w'∧wy.drew.grownBy w' none⟩]:=by
   intro F hF;simp only [List.mem_cons,List.not_mem_nil,or_false] at hF
   rcases hF with rfl | rfl
   ·exact fun l w1 w2 h hg=>gbT h hg
   ·rintro l w1 w2 ⟨⟨g9,A9,n9,c9,B9,k9,d9,h5,h6,h1,h2⟩,h3⟩ hg
    exact ⟨⟨g9,A9,n9,c9,B9,k9,d9,h5,h6,h1.grow hg,h2.grow hg⟩,gbT h3 hg⟩
  simp only [flOk,true_and,and_true];exact ⟨⟨ZR,hst⟩,⟨ZR,hst⟩,Xh _ _ _,hst⟩
 ·simp only [hopsK,hopK,Kd.next,and_true]
  refine ⟨?_, ?_, ?_, ?_, ?_, ?_, ?_, ?_, ?_, ?_, ?_, ?_⟩;rotate_left 8
  ·intro f w4 hG hd
   have hg4:=gbT (gbD (gbR wy none)) (chgF hG);have hz4:=hg4.size
   (try simp at hd)
   (first | simp [hd] | simp)
   clear hd;go_wp2_with fail;refine (Wj k x.b d _ _ w4 (AggR.grow KK.out hg4) (AggR.grow KB.out hg4) WK.out WB.out).mono ?_;rintro e w6 ⟨v6,rfl,o6,g6⟩;have O6:=zH (autF.lo o6 (show lo≤w4.heap.size by omega));have G6:=zH g6;clear o6 g6;go_wp2_with fail;exact ⟨_,rfl,O6.out,G6.out⟩
  ·intro f w4 hG hd
   have hg4:=gbT (gbD (gbR wy none)) (chgF hG);have hz4:=hg4.size
   (try simp at hd)
   obtain ⟨e1,e2,hA⟩:=hd;obtain ⟨A7,n7,c7,B7,k7,d7,e7⟩:=autF.form hA;rw [e7] at hA;have HA7:=zH (autF.rd hA);clear hA;simp [puts,dsts,Act.put,e1,e2,e7];clear e1 e2 e7;go_wp2_with fail;refine (XO k x.c (Zk k x.b d) _ _ _ w4 (AggR.grow KK.out hg4) (AggR.grow KC.out hg4) HA7.out WK.out WC.out (WQ WB.out)).mono ?_;rintro e w6 ⟨v6,rfl,o6,g6⟩;have O6:=zH (autF.lo o6 (show lo≤w4.heap.size by omega));have G6:=zH g6;clear o6 g6;go_wp2_with fail;exact ⟨_,rfl,O6.out,G6.out⟩
  ·intro f w4 hG hd
   have hg4:=gbT (gbD (gbR wy none)) (chgF hG);have hz4:=hg4.size;clear hd;simp [puts,dsts,Act.put];go_wp2_with fail;exact ⟨_,rfl,⟨_,rfl,hz4,Blk.new w4 _ _⟩,gbA (gbR _ _) _⟩
  ·intro f w4 hG hI hd
   have hI:wy.drew.grownBy w4 none:=hI
   (try simp at hd)
   obtain ⟨⟨g9,e8,hg9,R4⟩,h1,_⟩:=hd;obtain ⟨A9,n9,c9,B9,k9,d9,e9⟩:=autF.form h1;rw [e9] at h1;have f0:=R4.frozen 0;have f1:=R4.frozen 1;have b0:=R4.cell 0;have b1:=R4.cell 1;simp at b0 b1;have RS:=zH (Yf R4 (.slice A9 n9 c9) (.slice B9 k9 d9));have CH:=Za g9 [.slice A9 n9 c9,.slice B9 k9 d9] 0 w4;have AS:=zH (autF.far h1 R4 CH);have GS:=zH (Zu hI CH (by simpa using hg9));clear R4 h1 hI CH;simp [puts,dsts,Act.put,e9,e8];go_wp2_with fail;exact ⟨rfl,.bool false,⟨g9,A9,n9,c9,B9,k9,d9,e8,hg9,AS.out,RS.out⟩,GS.out⟩
  all_goals
   intro f w4 hG hd;have hg4:=gbT (gbD (gbR wy none)) (chgF hG);have k0:=(E0.out.grow hg4).cell 0;have k1:=(E0.out.grow hg4).cell 1;have x0:=(E1.out.grow hg4).cell 0;have x1:=(E1.out.grow hg4).cell 1;have x2:=(E1.out.grow hg4).cell 2;have x3:=(E1.out.grow hg4).cell 3;have x4:=(E1.out.grow hg4).cell 4;have x5:=(E1.out.grow hg4).cell 5;have y0:=(E2.out.grow hg4).cell 0;have y1:=(E2.out.grow hg4).cell 1;simp at k0 k1 x0 x1 x2 x3 x4 x5 y0 y1
   (try simp at hd)
   (first | simp [hd] | simp)
   clear hd;go_wp2_with fail;exact ⟨rfl,rfl⟩
 intro f wr hI hd;obtain ⟨⟨g9,A9,n9,c9,B9,k9,d9,e8_,hg9_,hAU,hBR⟩,hCZ⟩:=hI;have hCZ:=gbT (gbD (gbR wy none)) hCZ;have e9_:f 7=.pointer (some ⟨g9,0,none⟩):=e8_;clear e8_;simp only [puts,dsts,Act.put,e9_,zB,zC,zA,zD,zE];clear hd e9_;have GR:=zH hCZ;have GB:=zH hBR;have AU:=zH (autF.rd hAU);have hg9:=zH hg9_;clear hCZ hBR hAU hg9_ hlz lo hlo;obtain ⟨lo,hlo⟩:∃lo,wr.heap.size=lo:=⟨_,rfl⟩;have hlz:lo≤wr.heap.size:=by omega
 obtain ⟨gR,hgR'⟩:∃g,g9=g:=⟨_,rfl⟩;rw [hgR'] at GB hg9 ⊢;clear hgR' g9
 have hgR:gR<lo:=by
  rw [← hlo];have h:=GB.out;unfold Blk at h;exact (Array.getElem?_eq_some_iff.1 h).1
 go_wp2_with fail
 refine Zg [.rd (.agg #[.int .i64 k.p,.slice A k.al.length c]),.rd (.agg #[.slice A9 n9 c9,.slice B9 k9 d9]),.rd (.agg #[.int .i64 k.p,.slice A k.al.length c]),.rd (.pointer (some ⟨w0.heap.size+1,0,none⟩)),.rd (.agg #[.slice A1 x.a.sh.length a1,.slice A2 x.a.mc.length a2]),.rd (.pointer (some ⟨w0.heap.size+1+1,1,none⟩)),.rd (.int .i64 e),.fl (autF lo (Zk k x.a e)),.fl (autF lo (ZD k (ZD k x.c (Zk k x.b d)) (Zk k x.a e))),.ch] (fun _=>False)
  [⟨[],fun _ w'=>wr.drew.grownBy w' none⟩,
   ⟨[],fun _ w'=>(∃A9 n9 c9 B9 k9 d9,autF lo (ZD k (ZD k x.c (Zk k x.b d)) (Zk k x.a e)) (.agg #[.slice A9 n9 c9,.slice B9 k9 d9]) w'∧Blk w' gR 80 #[.slice A9 n9 c9,.slice B9 k9 d9])∧Chg (fun y=>y=gR) wr.drew w'⟩]
  (by kernel_rfl) (by kernel_rfl) (by kernel_rfl) 1 (by kernel_rfl) ?_ (gbR _ _) rfl ?_ ?_
 ·have hst:Zw [⟨[],fun _ w'=>wr.drew.grownBy w' none⟩,
   ⟨[],fun _ w'=>(∃A9 n9 c9 B9 k9 d9,autF lo (ZD k (ZD k x.c (Zk k x.b d)) (Zk k x.a e)) (.agg #[.slice A9 n9 c9,.slice B9 k9 d9]) w'∧Blk w' gR 80 #[.slice A9 n9 c9,.slice B9 k9 d9])∧Chg (fun y=>y=gR) wr.drew w'⟩]:=by
   intro F hF;simp only [List.mem_cons,List.not_mem_nil,or_false] at hF
   rcases hF with rfl | rfl
   ·exact fun l w1 w2 h hg=>gbT h hg
   ·rintro l w1 w2 ⟨⟨A9,n9,c9,B9,k9,d9,h1,h2⟩,h3⟩ hg
    exact ⟨⟨A9,n9,c9,B9,k9,d9,h1.grow hg,h2.grow hg⟩,h3.trans (Chg.of hg (by simp))⟩
  simp only [flOk,true_and,and_true];exact ⟨⟨ZR,hst⟩,ZR,hst⟩
 ·simp only [hopsK,hopK,Kd.next,and_true]
  refine ⟨?_, ?_, ?_, ?_, ?_, ?_, ?_, ?_, ?_, ?_⟩;rotate_left 7
  ·intro f w4 hG hd
   have hg4:=gbT (gbD (gbR wr none)) (chgF hG);have hz4:=hg4.size
   (try simp at hd)
   (first | simp [hd] | simp)
   clear hd;go_wp2_with fail;refine (Wj k x.a e _ _ w4 (AggR.grow KK.out (gbT GR.out hg4)) (AggR.grow KA.out (gbT GR.out hg4)) WK.out WA.out).mono ?_;rintro e w6 ⟨v6,rfl,o6,g6⟩;have O6:=zH (autF.lo o6 (show lo≤w4.heap.size by omega));have G6:=zH g6;clear o6 g6;go_wp2_with fail;exact ⟨_,rfl,O6.out,G6.out⟩
  ·intro f w4 hG hd
   have hg4:=gbT (gbD (gbR wr none)) (chgF hG);have hz4:=hg4.size
   (try simp at hd)
   obtain ⟨e1,e2,hA⟩:=hd;obtain ⟨A7,n7,c7,B7,k7,d7,e7⟩:=autF.form hA;rw [e7] at hA;have HA7:=zH (autF.rd hA);clear hA;simp [puts,dsts,Act.put,e1,e2,e7];clear e1 e2 e7;go_wp2_with fail;refine (XO k (ZD k x.c (Zk k x.b d)) (Zk k x.a e) _ _ _ w4 (AggR.grow KK.out (gbT GR.out hg4)) (AggR.grow AU.out hg4) HA7.out WK.out (Xn WC.out) (WQ WA.out)).mono ?_;rintro e w6 ⟨v6,rfl,o6,g6⟩;have O6:=zH (autF.lo o6 (show lo≤w4.heap.size by omega));have G6:=zH g6;clear o6 g6;go_wp2_with fail;exact ⟨_,rfl,O6.out,G6.out⟩
  ·intro f w4 hG hI hd
   have hI:wr.drew.grownBy w4 none:=hI;have hg4:=gbT (gbD (gbR wr none)) hI
   (try simp at hd)
   have h1:=hd.1;obtain ⟨A9,n9,c9,B9,k9,d9,e9⟩:=autF.form h1;rw [e9] at h1;have R4:=(GB.out).grow hg4;have f0:=R4.frozen 0;have f1:=R4.frozen 1;have b0:=R4.cell 0;have b1:=R4.cell 1;simp at b0 b1;have RS:=zH (Yf R4 (.slice A9 n9 c9) (.slice B9 k9 d9));have CH:=Za gR [.slice A9 n9 c9,.slice B9 k9 d9] 0 w4;have AS:=zH (h1.chg CH hgR);have CS:=zH ((Chg.of (S:=fun y=>y=gR) hI (by simp)).trans CH);clear R4 h1 hI CH hd;simp [puts,dsts,Act.put,e9];go_wp2_with fail;exact ⟨rfl,.bool false,⟨A9,n9,c9,B9,k9,d9,AS.out,RS.out⟩,CS.out⟩
  all_goals
   intro f w4 hG hd;have hg4:=gbT (gbD (gbR wr none)) (chgF hG);have kg:=gbT GR.out hg4;have k0:=(E0.out.grow kg).cell 0;have k1:=(E0.out.grow kg).cell 1;have x0:=(E1.out.grow kg).cell 0;have x1:=(E1.out.grow kg).cell 1;have y0:=(E2.out.grow kg).cell 0;have y1:=(E2.out.grow kg).cell 1;have g0:=(GB.out.grow hg4).cell 0;have g1:=(GB.out.grow hg4).cell 1;simp at k0 k1 x0 x1 y0 y1 g0 g1;clear kg
   (try simp at hd)
   (first | simp [hd] | simp)
   clear hd;go_wp2_with fail;exact ⟨rfl,rfl⟩
 intro f wt hI hd;obtain ⟨⟨A9,n9,c9,B9,k9,d9,hAU,hBR⟩,hCZ⟩:=hI;have hCZ:=chgDr hCZ;simp only [puts,dsts,Act.put,zB,zC,zA,zD,zE];clear hd;have GR':=zH (Zu GR.out hCZ hg9.out);have GB':=zH hBR;have AU':=zH (autF.rd hAU);clear hCZ hBR hAU hlz hlo GR GB AU hgR;have GR:=GR';have GB:=GB';have AU:=AU';clear GR' GB' AU';go_wp2_with fail;obtain ⟨lo,hlo⟩:∃lo,w0.heap.size+4=lo:=⟨_,rfl⟩;have hlz:lo≤wt.heap.size:=by have:=zy.out;have:=GR.out.size;omega
 obtain ⟨gS,hgS⟩:∃g,gR=g:=⟨_,rfl⟩;rw [hgS] at GB hg9 ⊢;clear hgS;obtain ⟨gR,hgR'⟩:∃g,w0.heap.size+1+1+1=g:=⟨_,rfl⟩;have hgR:gR<lo:=by omega
 have hwR:w0.heap.size≤gR:=by omega
 rw [hgR'] at E3 ⊢;have DR:=zH (E3.out.grow GR.out)
 refine Zg [.rd (.agg #[.int .i64 k.p,.slice A k.al.length c]),.rd (.agg #[.slice A9 n9 c9,.slice B9 k9 d9]),.rd (.pointer (some ⟨w0.heap.size,0,none⟩)),.rd (.int .i64 k.p),.rd (.pointer (some ⟨w0.heap.size+1+1,0,none⟩)),.rd (.int .i64 d),.rd (.pointer (some ⟨w0.heap.size+1+1,1,none⟩)),.rd (.int .i64 e),.fl (isV (.int .i64 ((d*e) % k.p))),.fl (autF lo (ZH k (ZD k (ZD k x.c (Zk k x.b d)) (Zk k x.a e)) ((d*e) % k.p))),.ch] (fun _=>False)
  [⟨[],fun _ w'=>wt.drew.grownBy w' none⟩,
   ⟨[],fun _ w'=>(∃A9 n9 c9 B9 k9 d9,autF lo (ZH k (ZD k (ZD k x.c (Zk k x.b d)) (Zk k x.a e)) ((d*e) % k.p)) (.agg #[.slice A9 n9 c9,.slice B9 k9 d9]) w'∧Blk w' gR 80 #[.slice A9 n9 c9,.slice B9 k9 d9])∧Chg (fun y=>y=gR) wt.drew w'⟩]
  (by kernel_rfl) (by kernel_rfl) (by kernel_rfl) 1 (by kernel_rfl) ?_ (gbR _ _) rfl ?_ ?_
 ·have hst:Zw [⟨[],fun _ w'=>wt.drew.grownBy w' none⟩,
   ⟨[],fun _ w'=>(∃A9 n9 c9 B9 k9 d9,autF lo (ZH k (ZD k (ZD k x.c (Zk k x.b d)) (Zk k x.a e)) ((d*e) % k.p)) (.agg #[.slice A9 n9 c9,.slice B9 k9 d9]) w'∧Blk w' gR 80 #[.slice A9 n9 c9,.slice B9 k9 d9])∧Chg (fun y=>y=gR) wt.drew w'⟩]:=by
   intro F hF;simp only [List.mem_cons,List.not_mem_nil,or_false] at hF
   rcases hF with rfl | rfl
   ·exact fun l w1 w2 h hg=>gbT h hg
   ·rintro l w1 w2 ⟨⟨A9,n9,c9,B9,k9,d9,h1,h2⟩,h3⟩ hg
    exact ⟨⟨A9,n9,c9,B9,k9,d9,h1.grow hg,h2.grow hg⟩,h3.trans (Chg.of hg (by simp))⟩
  simp only [flOk,true_and,and_true];exact ⟨⟨Zb _,hst⟩,ZR,hst⟩
 ·simp only [hopsK,hopK,Kd.next,and_true]
  refine ⟨?_, ?_, ?_, ?_, ?_, ?_, ?_, ?_, ?_, ?_, ?_⟩;rotate_left 8
  ·intro f w4 hG hd
   have hg4:=gbT (gbD (gbR wt none)) (chgF hG);have hz4:=hg4.size
   (try simp at hd)
   (first | simp [hd] | simp)
   clear hd;go_wp2_with fail;refine (WG k.p d e w4 hd1 he1).mono ?_;rintro e w6 ⟨rfl,g6⟩;have G6:=zH g6;clear g6;go_wp2_with fail;exact ⟨_,rfl,rfl,G6.out⟩
  ·intro f w4 hG hd
   have hg4:=gbT (gbD (gbR wt none)) (chgF hG);have hz4:=hg4.size
   (try simp at hd)
   obtain ⟨e1,e2,e3⟩:=hd;have e3:f 57=.int .i64 ((d*e) % k.p):=e3;simp [puts,dsts,Act.put,e1,e2,e3];clear e1 e2 e3;go_wp2_with fail;refine (Vu k (ZD k (ZD k x.c (Zk k x.b d)) (Zk k x.a e)) ((d*e) % k.p) _ _ w4 (AggR.grow KK.out (gbT GR.out hg4)) (AggR.grow AU.out hg4) WK.out (Xn (Xn WC.out))).mono ?_;rintro e w6 ⟨v6,rfl,o6,g6⟩;have O6:=zH (autF.lo o6 (show lo≤w4.heap.size by omega));have G6:=zH g6;clear o6 g6;go_wp2_with fail;exact ⟨_,rfl,O6.out,G6.out⟩
  ·intro f w4 hG hI hd
   have hI:wt.drew.grownBy w4 none:=hI;have hg4:=gbT (gbD (gbR wt none)) hI
   (try simp at hd)
   have h1:=hd.1;obtain ⟨A9,n9,c9,B9,k9,d9,e9⟩:=autF.form h1;rw [e9] at h1;have R4:=(DR.out).grow hg4;have f0:=R4.frozen 0;have f1:=R4.frozen 1;have b0:=R4.cell 0;have b1:=R4.cell 1;simp at b0 b1;have RS:=zH (Yf R4 (.slice A9 n9 c9) (.slice B9 k9 d9));have CH:=Za gR [.slice A9 n9 c9,.slice B9 k9 d9] 0 w4;have AS:=zH (h1.chg CH hgR);have CS:=zH ((Chg.of (S:=fun y=>y=gR) hI (by simp)).trans CH);clear R4 h1 hI CH hd;simp [puts,dsts,Act.put,e9];go_wp2_with fail;exact ⟨rfl,.bool false,⟨A9,n9,c9,B9,k9,d9,AS.out,RS.out⟩,CS.out⟩
  all_goals
   intro f w4 hG hd;have hg4:=gbT (gbD (gbR wt none)) (chgF hG);have kg:=gbT GR.out hg4;have k0:=(E0.out.grow kg).cell 0;have k1:=(E0.out.grow kg).cell 1;have x0:=(E1.out.grow kg).cell 0;have x1:=(E1.out.grow kg).cell 1;have y0:=(E2.out.grow kg).cell 0;have y1:=(E2.out.grow kg).cell 1;have g0:=(GB.out.grow hg4).cell 0;have g1:=(GB.out.grow hg4).cell 1;simp at k0 k1 x0 x1 y0 y1 g0 g1;clear kg
   (try simp at hd)
   (first | simp [hd] | simp)
   clear hd;go_wp2_with fail;exact ⟨rfl,rfl⟩
 intro f w9 hI hd;obtain ⟨⟨A9,n9,c9,B9,k9,d9,hAU,hBR⟩,hCZ⟩:=hI;have hCZ:=chgDr hCZ;simp only [puts,dsts,Act.put,zB,zC,zA,zD,zE];clear hd;have GZ:=zH (Zu (gbT GW.out GR.out) hCZ hwR);go_wp2_with fail;refine YJ Tryz.results72 (by rfl) stAuth (cs:=#[.slice A9 n9 c9,.slice B9 k9 d9]) hBR (by rfl) (by rfl) ?_;exact ⟨_,rfl,by rw [HFO.out];exact autF.lo hAU (by omega),GZ.out⟩
end Go.Proofs.YthaadgdeadbhkaaGreat
