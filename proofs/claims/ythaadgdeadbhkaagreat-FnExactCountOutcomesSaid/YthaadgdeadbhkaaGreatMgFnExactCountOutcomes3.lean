/-
 What a cell holds,of any depth: it reads as something (rd),or it is the call's own (own),on blocks that are listed: no two cells of one's own share a block.
-/
import Derived.Test.YthaadgdeadbhkaaGreatMgFnExactCountOutcomes2
import Derived.StillTailTactics
open Go.RowKit
set_option linter.unusedVariables false
set_option linter.unusedSimpArgs false
namespace Go.Proofs.YthaadgdeadbhkaaGreat
theorem ZK {P:Program} {ops:Array Oper} {rest:List Oper} {o:Oper} {a:Act} {Q:Exit→Act→World→Prop} (wr:World) (g:Nat) (hgs:wr.heap.size=g) {t e:TypeId} {z:Value} {size bytes:Nat} (E:El P t e z size bytes) (hgd:o.guard=none) (s x:Operand)
  (ho:o.op=.call { callee:=.builtin .append,args:=#[s,x],argTypes:=#[t,t] }) (cs:Array Value) (hcs:cs.size=size) (h1:∀u∈cs.toList,u.oneCell'=true)
  (base:Nat) (v:Value) (n:Nat) (xs:List Value) (hown:wr.ownsRow base e size v n xs) (hs:a.eval s=v) (hx:a.eval x=.slice (some ⟨g,0,none⟩) 1 1)
  (hn:n+1≤maxLen) (hb:(n+1)*bytes≤140737488355328) (hbase:base≤wr.heap.size)
  (h:∀v' w',w'.ownsRow base e size v' (n+1) (xs ++ cs.toList)→wr.grownBy w' v.ownBlock→wpList P ops Q rest (a.put o.dst v') w') :
  wpList P ops Q (o :: rest) a (wr.alloc (.cells cs e)):=by
 subst hgs;exact wp_append1 wr E hgd s x ho cs hcs h1 base v n xs hown hs hx hn hb hbase h
structure CS where
 rd:World→Value→Prop
 own:World→List Nat→Value→Prop
 grow:∀{w w':World} {v:Value},rd w v→w.grownBy w' none→rd w' v
 toRd:∀{w:World} {F:List Nat} {v:Value},own w F v→rd w v
 kept:∀{w w':World} {F:List Nat} {v:Value},own w F v→(∀g∈F,w'.heap[g]?=w.heap[g]?)→own w' F v
 lt:∀{w:World} {F:List Nat} {v:Value},own w F v→∀g∈F,g<w.heap.size
 nd:∀{w:World} {F:List Nat} {v:Value},own w F v→F.Nodup
 one:∀{w:World} {v:Value},rd w v→v.oneCell'=true
def CS.pl (x:Value):CS where
 rd _ v:=v=x∧x.oneCell'=true
 own _ F v:=F=[]∧v=x∧x.oneCell'=true
 grow h _:=h
 toRd h:=h.2
 kept h _:=h
 lt h:=by rw [h.1];simp
 nd h:=by rw [h.1];simp
 one h':=by rw [h'.1];exact h'.2
def ci (z:Int):CS:=CS.pl (.int .i64 z)
def cb (b:Bool):CS:=CS.pl (.bool b)
theorem ci_rd {w:World} {z:Int} {v:Value} (h:(ci z).rd w v):v=.int .i64 z:=h.1
theorem cb_rd {w:World} {b:Bool} {v:Value} (h:(cb b).rd w v):v=.bool b:=h.1
theorem ci_mk (w:World) (z:Int):(ci z).rd w (.int .i64 z):=⟨rfl,rfl⟩
theorem Qu (w:World) (z:Int):(ci z).own w [] (.int .i64 z):=⟨rfl,rfl,rfl⟩
theorem cb_own (w:World) (b:Bool):(cb b).own w [] (.bool b):=⟨rfl,rfl,rfl⟩
def RdAll (w:World) (cs:List CS) (vs:List Value):Prop :=
 vs.length=cs.length∧∀(i:Nat) (c:CS) (v:Value),cs[i]?=some c→vs[i]?=some v→c.rd w v
theorem RdAll.grow {w w':World} {cs:List CS} {vs:List Value} (h:RdAll w cs vs) (hg:w.grownBy w' none):RdAll w' cs vs:=⟨h.1,fun i c v hc hv=>c.grow (h.2 i c v hc hv) hg⟩
theorem RdAll.nil (w:World):RdAll w [] []:=⟨rfl,fun i c v h=>by simp at h⟩
theorem RdAll.cons {w:World} {c:CS} {v:Value} {cs:List CS} {vs:List Value} (h:c.rd w v) (k:RdAll w cs vs):RdAll w (c :: cs) (v :: vs) :=
 ⟨by simp [k.1],fun i d u hd hu=>by
  cases i with
  | zero=>simp at hd hu;subst hd;subst hu;exact h
  | succ i=>exact k.2 i d u (by simpa using hd) (by simpa using hu)⟩
theorem RdAll.head {w:World} {c:CS} {cs:List CS} {vs:List Value} (h:RdAll w (c :: cs) vs):∃v us,vs=v :: us∧c.rd w v∧RdAll w cs us:=by
 cases vs with
 | nil=>have:=h.1;simp at this
 | cons v us=>exact ⟨v,us,rfl,h.2 0 c v rfl rfl,by have:=h.1;simpa using this,fun i d u hd hu=>h.2 (i+1) d u (by simpa using hd) (by simpa using hu)⟩
theorem RdAll.none {w:World} {vs:List Value} (h:RdAll w [] vs):vs=[]:=List.eq_nil_of_length_eq_zero h.1
theorem RdAll.one {w:World} {cs:List CS} {vs:List Value} (h:RdAll w cs vs):∀u∈vs,u.oneCell'=true:=by
 intro u hu;obtain ⟨i,hi⟩:=List.mem_iff_getElem?.1 hu;have hl:=(List.getElem?_eq_some_iff.1 hi).1;exact (cs[i]'(by rw [← h.1];exact hl)).one (h.2 i _ u (List.getElem?_eq_getElem _) hi)
structure OwnAll (w:World) (cs:List CS) (vs:List Value) (Fs:List (List Nat)):Prop where
 lv:vs.length=cs.length
 lf:Fs.length=cs.length
 at_:∀(i:Nat) (c:CS) (v:Value) (F:List Nat),cs[i]?=some c→vs[i]?=some v→Fs[i]?=some F→c.own w F v
 nd:Fs.flatten.Nodup
theorem VE {Fs:List (List Nat)} {i:Nat} {F:List Nat} (h:Fs[i]?=some F) {g:Nat} (hg:g∈F):g∈Fs.flatten:=List.mem_flatten.2 ⟨F,List.mem_of_getElem? h,hg⟩
section
variable {w w':World} {cs:List CS} {vs:List Value} {Fs:List (List Nat)}
theorem OwnAll.rd (h:OwnAll w cs vs Fs):RdAll w cs vs:=⟨h.lv,fun i c v hc hv=>by
 have hl:=(List.getElem?_eq_some_iff.1 hc).1
 exact c.toRd (h.at_ i c v _ hc hv (List.getElem?_eq_getElem (by rw [h.lf];exact hl)))⟩
theorem OwnAll.get (h:OwnAll w cs vs Fs) {i:Nat} (hi:i<cs.length):∃c v F,cs[i]?=some c∧vs[i]?=some v∧Fs[i]?=some F∧c.own w F v :=
 ⟨_,_,_,List.getElem?_eq_getElem hi,List.getElem?_eq_getElem (by rw [h.lv];exact hi),List.getElem?_eq_getElem (by rw [h.lf];exact hi),h.at_ i _ _ _ (List.getElem?_eq_getElem hi) (List.getElem?_eq_getElem _) (List.getElem?_eq_getElem _)⟩
theorem OwnAll.lt (h:OwnAll w cs vs Fs):∀g∈Fs.flatten,g<w.heap.size:=by
 intro g hg;obtain ⟨F,hF,hgF⟩:=List.mem_flatten.1 hg;obtain ⟨i,hi⟩:=List.mem_iff_getElem?.1 hF;have hl:=(List.getElem?_eq_some_iff.1 hi).1;obtain ⟨c,v,F',hc,hv,hF',ho⟩:=h.get (i:=i) (by rw [← h.lf];exact hl);rw [hi] at hF';injection hF' with hF';subst hF';exact c.lt ho g hgF
theorem OwnAll.kept (h:OwnAll w cs vs Fs) (hk:∀g∈Fs.flatten,w'.heap[g]?=w.heap[g]?):OwnAll w' cs vs Fs :=
 ⟨h.lv,h.lf,fun i c v F hc hv hF=>c.kept (h.at_ i c v F hc hv hF) fun g hg=>hk g (VE hF hg),h.nd⟩
theorem nodup_mid {α:Type} {A B B' C:List α} (h:(A ++ B ++ C).Nodup) (hb:B'.Nodup) (hd:∀g∈B',g∉A∧g∉C):(A ++ B' ++ C).Nodup:=by
 rw [List.nodup_append,List.nodup_append] at *;obtain ⟨⟨h1,h2,h3⟩,h4,h5⟩:=h;refine ⟨⟨h1,hb,fun a ha b hb' e=>(hd b hb').1 (e ▸ ha)⟩,h4,fun a ha b hb' e => ?_⟩
 rcases List.mem_append.1 ha with ha | ha
 ·exact h5 a (List.mem_append_left _ ha) b hb' e
 ·exact (hd a ha).2 (e ▸ hb')
theorem UY {α:Type} (l:List (List α)) (k:Nat) (h:k<l.length):l.flatten=(l.take k).flatten ++ l[k] ++ (l.drop (k+1)).flatten:=by
 conv=>lhs;rw [← List.take_append_drop k l,List.drop_eq_getElem_cons h,List.flatten_append,List.flatten_cons,← List.append_assoc]
theorem flat_set {α:Type} (l:List (List α)) (k:Nat) (h:k<l.length) (x:List α):(l.set k x).flatten=(l.take k).flatten ++ x ++ (l.drop (k+1)).flatten:=by
 rw [List.set_eq_take_append_cons_drop,if_pos h];simp
theorem OwnAll.set_ (h:OwnAll w cs vs Fs) {i:Nat} (hi:i<cs.length) {c:CS} {v:Value} {F:List Nat} (ho:c.own w' F v) (hk:∀g∈Fs.flatten,g∉(Fs.getD i [])→w'.heap[g]?=w.heap[g]?)
  (hd:∀g∈F,g∈Fs.flatten→g∈Fs.getD i []):OwnAll w' (cs.set i c) (vs.set i v) (Fs.set i F):=by
 have hiF:i<Fs.length:=by rw [h.lf];exact hi
 have hiv:i<vs.length:=by rw [h.lv];exact hi
 have hget:Fs.getD i []=Fs[i]:=by simp [zF,List.getElem?_eq_getElem hiF]
 rw [hget] at hk hd;have hnd:=h.nd;rw [UY _ _ hiF] at hnd
 have apart:∀g∈Fs[i],g∉(Fs.take i).flatten∧g∉(Fs.drop (i+1)).flatten:=fun g hg=>by
  rw [List.nodup_append,List.nodup_append] at hnd;exact ⟨fun hg'=>hnd.1.2.2 g hg' g hg rfl,fun hg'=>hnd.2.2 g (List.mem_append_right _ hg) g hg' rfl⟩
 refine ⟨by simp [h.lv],by simp [h.lf],fun j d u G hd' hu hG => ?_, ?_⟩
 ·rw [List.getElem?_set] at hd' hu hG
  by_cases e:i=j
  ·subst e
   rw [if_pos rfl,if_pos hi] at hd';rw [if_pos rfl,if_pos hiv] at hu;rw [if_pos rfl,if_pos hiF] at hG;injection hd' with hd';injection hu with hu;injection hG with hG;subst hd';subst hu;subst hG;exact ho
  ·rw [if_neg e] at hd' hu hG
   refine d.kept (h.at_ j d u G hd' hu hG) fun g hg=>hk g (VE hG hg) fun hgi => ?_;have h1:=apart g hgi
   rcases Nat.lt_or_ge j i with hji | hji
   ·exact h1.1 (List.mem_flatten.2 ⟨G,List.mem_of_getElem? (i:=j) (by rw [List.getElem?_take,if_pos hji];exact hG),hg⟩)
   ·exact h1.2 (List.mem_flatten.2 ⟨G,List.mem_of_getElem? (i:=j - (i+1)) (by rw [List.getElem?_drop,show i+1+(j - (i+1))=j by omega];exact hG),hg⟩)
 ·rw [flat_set _ _ hiF]
  refine nodup_mid hnd (c.nd ho) fun g hg => ?_
  by_cases hm:g∈Fs.flatten
  ·exact apart g (hd g hg hm)
  ·rw [UY _ _ hiF] at hm
   exact ⟨fun h'=>hm (List.mem_append_left _ (List.mem_append_left _ h')),fun h'=>hm (List.mem_append_right _ h')⟩
theorem Vp {i g:Nat} {F:List Nat} (hi:i<Fs.length) (h:g∈(Fs.set i F).flatten):g∈Fs.flatten∨g∈F:=by
 rw [flat_set _ _ hi] at h;rw [UY _ _ hi]
 rcases List.mem_append.1 h with h | h
 ·rcases List.mem_append.1 h with h | h
  ·exact .inl (List.mem_append_left _ (List.mem_append_left _ h))
  ·exact .inr h
 ·exact .inl (List.mem_append_right _ h)
theorem OwnAll.append {cs':List CS} {vs':List Value} {Fs':List (List Nat)} (h:OwnAll w cs vs Fs) (k:OwnAll w cs' vs' Fs') (hd:∀g∈Fs.flatten,g∉Fs'.flatten):OwnAll w (cs ++ cs') (vs ++ vs') (Fs ++ Fs'):=by
 refine ⟨by simp [h.lv,k.lv],by simp [h.lf,k.lf],fun i c v F hc hv hF => ?_, ?_⟩
 ·rw [List.getElem?_append] at hc hv hF
  rw [h.lv] at hv;rw [h.lf] at hF
  split at hc
  ·rename_i hl
   rw [if_pos hl] at hv hF;exact h.at_ i c v F hc hv hF
  ·rename_i hl
   rw [if_neg hl] at hv hF;exact k.at_ _ c v F hc hv hF
 ·rw [List.flatten_append,List.nodup_append]
  exact ⟨h.nd,k.nd,fun a ha b hb e=>hd a ha (e ▸ hb)⟩
theorem OwnAll.nil (w:World):OwnAll w [] [] []:=⟨rfl,rfl,fun i c v F h=>by simp at h,by simp⟩
theorem OwnAll.cons {c:CS} {v:Value} {F:List Nat} (ho:c.own w F v) (h:OwnAll w cs vs Fs) (hd:∀g∈F,g∉Fs.flatten):OwnAll w (c :: cs) (v :: vs) (F :: Fs):=by
 refine ⟨by simp [h.lv],by simp [h.lf],fun i d u G hd' hu hG => ?_, ?_⟩
 ·cases i with
  | zero=>simp at hd' hu hG;subst hd';subst hu;subst hG;exact ho
  | succ i=>exact h.at_ i d u G (by simpa using hd') (by simpa using hu) (by simpa using hG)
 ·rw [List.flatten_cons,List.nodup_append]
  exact ⟨c.nd ho,h.nd,fun a ha b hb e=>hd a ha (e ▸ hb)⟩
theorem OwnAll.head {c:CS} (h:OwnAll w (c :: cs) vs Fs):∃v us F Gs,vs=v :: us∧Fs=F :: Gs∧c.own w F v∧OwnAll w cs us Gs∧∀g∈F,g∉Gs.flatten:=by
 cases vs with
 | nil=>have:=h.lv;simp at this
 | cons v us =>
  cases Fs with
  | nil=>have:=h.lf;simp at this
  | cons F Gs =>
   have hnd:=h.nd;rw [List.flatten_cons,List.nodup_append] at hnd;exact ⟨v,us,F,Gs,rfl,rfl,h.at_ 0 c v F rfl rfl rfl,⟨by have:=h.lv;simpa using this,by have:=h.lf;simpa using this,fun i d u G hd hu hG=>h.at_ (i+1) d u G (by simpa using hd) (by simpa using hu) (by simpa using hG),hnd.2.1⟩,fun g hg hg'=>hnd.2.2 g hg g hg' rfl⟩
theorem OwnAll.none (h:OwnAll w [] vs Fs):vs=[]∧Fs=[]:=⟨List.eq_nil_of_length_eq_zero h.lv,List.eq_nil_of_length_eq_zero h.lf⟩
theorem ownAll_pl (l:List Value) (h:∀u∈l,u.oneCell'=true) (w:World):OwnAll w (l.map CS.pl) l (l.map fun _=>[]):=by
 induction l with
 | nil=>exact OwnAll.nil w
 | cons x xs ih=>exact OwnAll.cons ⟨rfl,rfl,h x (List.mem_cons_self ..)⟩ (ih fun u hu=>h u (List.mem_cons_of_mem _ hu)) (by simp)
theorem rdAll_pl (l:List Value) (h:∀u∈l,u.oneCell'=true) (w:World):RdAll w (l.map CS.pl) l:=(ownAll_pl l h w).rd
theorem Kt {w:World} {l vs:List Value} (h:RdAll w (l.map CS.pl) vs):vs=l:=by
 induction l generalizing vs with
 | nil=>exact RdAll.none h
 | cons x xs ih =>
  obtain ⟨v,us,rfl,h1,h2⟩:=RdAll.head h;rw [ih h2,h1.1]
theorem Qv {w:World} {l vs:List Value} {Fs:List (List Nat)} (h:OwnAll w (l.map CS.pl) vs Fs):Fs.flatten=[]:=by
 induction l generalizing vs Fs with
 | nil=>rw [(OwnAll.none h).2];rfl
 | cons x xs ih =>
  obtain ⟨v,us,F,Gs,rfl,rfl,h1,h2,_⟩:=OwnAll.head h;rw [List.flatten_cons,ih h2,h1.1];rfl
theorem flat_nils {α β:Type} (xs:List α):((xs.map fun _=>([]:List β))).flatten=[]:=by
 induction xs with
 | nil=>rfl
 | cons x xs ih=>simp
end
theorem own_rd2 {w:World} {lo:Nat} {e:TypeId} {s n:Nat} {cs:List Value} {u:Value} (h:w.ownsRow lo e s u n cs):∃A c,u=.slice A n c∧n≤c∧c≤maxLen∧Rd w s A n cs:=by
 rcases h.2 with ⟨h1,h2⟩ | ⟨g,cap,cur,hv,hb,hg,hnc,hm,r⟩
 ·have hn:n=0:=h2
  subst hn;exact ⟨none,0,h1,Nat.le_refl _,by simp,by rw [← show Value.slice none 0 0=u from h1.symm] at h;exact Rd.ofOwn h⟩
 ·refine ⟨some ⟨g,0,none⟩,cap,hv,hnc,hm, ?_⟩
  rw [hv] at h;exact Rd.ofOwn h
def row (e:TypeId) (s:Nat) (cs:List CS):CS where
 rd w v:=∃A n c vs,v=.slice A n c∧n≤c∧c≤maxLen∧cs.length=n*s∧RdAll w cs vs∧Rd w s A n vs
 own w F v:=∃n vs Fs,cs.length=n*s∧w.ownsRow 0 e s v n vs∧OwnAll w cs vs Fs∧F=v.ownBlock.toList ++ Fs.flatten∧F.Nodup
 grow h hg:=by
  obtain ⟨A,n,c,vs,h1,h2,h3,h4,h5,h6⟩:=h;exact ⟨A,n,c,vs,h1,h2,h3,h4,h5.grow hg,h6.grow hg⟩
 toRd h:=by
  obtain ⟨n,vs,Fs,h1,h2,h3,_,_⟩:=h;obtain ⟨A,c,rfl,hc,hm,hr⟩:=own_rd2 h2;exact ⟨A,n,c,vs,rfl,hc,hm,h1,h3.rd,hr⟩
 kept h hk:=by
  obtain ⟨n,vs,Fs,h1,h2,h3,h4,h5⟩:=h;subst h4;refine ⟨n,vs,Fs,h1,⟨h2.1, ?_⟩,h3.kept fun g hg=>hk g (List.mem_append_right _ hg),rfl,h5⟩
  rcases h2.2 with h' | ⟨g,cap,cur,hv,hb,hg,r⟩
  ·exact .inl h'
  ·exact .inr ⟨g,cap,cur,hv,hb,by rw [hk g (List.mem_append_left _ (by rw [hv];simp [Value.ownBlock]))];exact hg,r⟩
 lt h:=by
  obtain ⟨n,vs,Fs,h1,h2,h3,h4,h5⟩:=h;subst h4;intro g hg
  rcases List.mem_append.1 hg with hg | hg
  ·exact (h2.lt g (by simpa using hg)).2
  ·exact h3.lt g hg
 nd h:=by obtain ⟨n,vs,Fs,h1,h2,h3,h4,h5⟩:=h;exact h5
 one h:=by obtain ⟨A,n,c,vs,rfl,_⟩:=h;rfl
theorem ZV {e:TypeId} {s:Nat} {cs:List CS} {w:World} {F:List Nat} {v:Value} (h:(row e s cs).own w F v):∃A n c,v=.slice A n c:=by
 obtain ⟨n,vs,Fs,_,h2,_⟩:=h;obtain ⟨A,c,hv,_⟩:=own_rd2 h2;exact ⟨A,n,c,hv⟩
def lst {α:Type} (e:TypeId) (s:Nat) (f:α→List CS) (xs:List α):CS:=row e s (xs.flatMap f)
def plst {α:Type} (e:TypeId) (s:Nat) (f:α→List Value) (xs:List α):CS:=lst e s (fun x=>(f x).map CS.pl) xs
def fiC (z:Int):List Value:=[.int .i64 z]
abbrev cints (xs:List Int):CS:=plst 3 1 fiC xs
theorem div_of {a n s:Nat} (hs:0<s) (h:a*s=n*s):a=n:=Nat.eq_of_mul_eq_mul_right hs h
section
variable {α:Type} {e:TypeId} {s:Nat} {f:α→List CS} {xs:List α} {w w':World} {v:Value} {F:List Nat}
theorem lst_rd (hf:∀x,(f x).length=s) (hs:0<s) (h:(lst e s f xs).rd w v):∃A c vs,v=.slice A xs.length c∧xs.length≤c∧c≤maxLen∧RdAll w (xs.flatMap f) vs∧Rd w s A xs.length vs:=by
 obtain ⟨A,n,c,vs,h1,h2,h3,h4,h5,h6⟩:=h;rw [YT hf] at h4;have:=div_of hs h4;subst this;exact ⟨A,c,vs,h1,h2,h3,h5,h6⟩
theorem lst_mk (hf:∀x,(f x).length=s) {A:Option Addr} {n c:Nat} {vs:List Value} (hn:xs.length=n) (hc:n≤c) (hm:c≤maxLen) (h:RdAll w (xs.flatMap f) vs) (hr:Rd w s A n vs):(lst e s f xs).rd w (.slice A n c) :=
 ⟨A,n,c,vs,rfl,hc,hm,by rw [YT hf,hn],h,hr⟩
theorem lst_at (hf:∀x,(f x).length=s) (hs:0<s) {A:Option Addr} {n c:Nat} (h:(lst e s f xs).rd w (.slice A n c)) {k:Nat} (hk:k<n) :
  ∃(b o:Nat) (x:α),A=some ⟨b,o,none⟩∧b<w.heap.size∧xs[k]?=some x∧∀j d,(f x)[j]?=some d→∃u,w.cell? ⟨b,o+(k*s+j),none⟩=some u∧d.rd w u:=by
 obtain ⟨A',c',vs,hv,h2,h3,h5,h6⟩:=lst_rd hf hs h;injection hv with e1 e2 e3;subst e1;subst e2;obtain ⟨b,o,rfl,hb,hc⟩:=h6.2 (by omega);refine ⟨b,o,xs[k],rfl,hb,List.getElem?_eq_getElem hk,fun j d hd => ?_⟩;have hj:j<s:=by rw [← hf xs[k]];exact (List.getElem?_eq_some_iff.1 hd).1
 have h7:(xs.flatMap f)[k*s+j]?=some d:=by rw [Ve hf xs k j hj,List.getElem?_eq_getElem hk];exact hd
 have hl:k*s+j<vs.length:=by rw [h5.1];exact (List.getElem?_eq_some_iff.1 h7).1
 have hlt:=UX (sz:=s) hk hj;exact ⟨vs[k*s+j],by rw [hc _ hlt,List.getElem?_eq_getElem hl],h5.2 _ d _ h7 (List.getElem?_eq_getElem hl)⟩
theorem lst_len (hf:∀x,(f x).length=s) (hs:0<s) {A:Option Addr} {n c:Nat} (h:(lst e s f xs).rd w (.slice A n c)):xs.length=n∧n≤c∧c≤maxLen:=by
 obtain ⟨A',c',vs,hv,h2,h3,_⟩:=lst_rd hf hs h;injection hv with e1 e2 e3;subst e2;subst e3;exact ⟨rfl,h2,h3⟩
end
theorem Ud {α:Type} (f:α→List Value) (xs:List α):(xs.flatMap fun x=>(f x).map CS.pl)=(xs.flatMap f).map CS.pl:=by
 induction xs with
 | nil=>rfl
 | cons x xs ih=>rw [List.flatMap_cons,List.flatMap_cons,List.map_append,ih]
theorem flat_one {α β:Type} (f:α→β) (xs:List α):(xs.flatMap fun z=>[f z])=xs.map f:=by
 induction xs with
 | nil=>rfl
 | cons x xs ih=>rw [List.flatMap_cons,ih];rfl
section
variable {α:Type} {e:TypeId} {s:Nat} {f:α→List Value} {xs:List α} {w:World} {v:Value}
theorem ZP (hf:∀x,(f x).length=s) (hs:0<s) (h:(plst e s f xs).rd w v):∃A c,v=.slice A xs.length c∧xs.length≤c∧c≤maxLen∧FL f s w A xs.length xs:=by
 obtain ⟨A,c,vs,rfl,h1,h2,h3,h4⟩:=lst_rd (s:=s) (fun x=>by rw [List.length_map,hf]) hs h;refine ⟨A,c,rfl,h1,h2,rfl, ?_⟩;rw [Ud] at h3;rw [Kt h3] at h4;exact h4
theorem plst_mk (hf:∀x,(f x).length=s) (h1:∀x,∀u∈f x,u.oneCell'=true) {A:Option Addr} {n c:Nat} (h:FL f s w A n xs) (hc:n≤c) (hm:c≤maxLen):(plst e s f xs).rd w (.slice A n c):=by
 refine lst_mk (s:=s) (vs:=xs.flatMap f) (fun x=>by rw [List.length_map,hf]) h.len hc hm ?_ h.rd;rw [Ud];exact rdAll_pl _ (fun u hu=>by obtain ⟨x,_,hx⟩:=List.mem_flatMap.1 hu;exact h1 x u hx) w
theorem Vf (hf:∀x,(f x).length=s) (hs:0<s) (h1:∀x,∀u∈f x,u.oneCell'=true) {base n:Nat} (h:w.ownsRow base e s v n (xs.flatMap f)):(plst e s f xs).own w v.ownBlock.toList v:=by
 have hl:xs.length=n:=by have:=h.1;rw [YT hf] at this;exact div_of hs this
 refine ⟨n,_,(xs.flatMap f).map fun _=>[], ?_,ZE h (Nat.zero_le _), ?_,by rw [flat_nils,List.append_nil], ?_⟩
 ·rw [Ud,List.length_map,YT hf,hl]
 ·rw [Ud]
  exact ownAll_pl _ (fun u hu=>by obtain ⟨x,_,hx⟩:=List.mem_flatMap.1 hu;exact h1 x u hx) w
 ·cases v.ownBlock <;> simp
theorem QX (hf:∀x,(f x).length=s) (hs:0<s) {F:List Nat} (h:(plst e s f xs).own w F v):∃A c,v=.slice A xs.length c∧F=v.ownBlock.toList∧∀lo,(∀g∈F,lo≤g)→w.ownsRow lo e s v xs.length (xs.flatMap f):=by
 obtain ⟨A,c,hv,_⟩:=ZP hf hs ((plst e s f xs).toRd h);obtain ⟨n,vs,Fs,h1,h2,h3,h4,h5⟩:=h;rw [Ud,List.length_map,YT hf] at h1;have h1:=div_of hs h1;subst h1;rw [Ud] at h3;have e1:=Kt h3.rd;have e2:=Qv h3;rw [e2,List.append_nil] at h4;subst e1;exact ⟨A,c,hv,h4,fun lo hlo=>Wz h2 fun g hg=>hlo g (by rw [h4,hg];simp)⟩
end
theorem Jt (x:Int):∀u∈fiC x,u.oneCell'=true:=by simp [fiC,Value.oneCell']
theorem Xj (xs:List Int):xs.flatMap fiC=xs.map (Value.int .i64):=flat_one _ xs
theorem Zx {w:World} {xs:List Int} {v:Value} (h:(cints xs).rd w v):∃A c,v=.slice A xs.length c∧xs.length≤c∧c≤maxLen∧Ints w A xs.length xs:=by
 obtain ⟨A,c,h1,h2,h3,h4⟩:=ZP (s:=1) (fun _=>rfl) (by omega) h;exact ⟨A,c,h1,h2,h3,by have:=h4.rd;rw [Xj] at this;exact this⟩
theorem cints_rd' {w:World} {xs:List Int} {A:Option Addr} {n c:Nat} (h:(cints xs).rd w (.slice A n c)):xs.length=n∧n≤c∧c≤maxLen∧Ints w A n xs:=by
 obtain ⟨A',c',hv,h1,h2,h3⟩:=Zx h;injection hv with e1 e2 e3;subst e1;subst e2;subst e3;exact ⟨rfl,h1,h2,h3⟩
theorem UA {w:World} {A:Option Addr} {n c:Nat} {xs:List Int} (h:Ints w A n xs) (hc:n≤c) (hm:c≤maxLen):(cints xs).rd w (.slice A n c) :=
 plst_mk (s:=1) (fun _=>rfl) Jt ⟨h.len,by rw [Xj];exact h⟩ hc hm
theorem Ya {w:World} {base n:Nat} {v:Value} {xs:List Int} (h:w.ownsRow base 3 1 v n (xs.map (Value.int .i64))):(cints xs).own w v.ownBlock.toList v:=by
 rw [← Xj] at h;exact Vf (s:=1) (fun _=>rfl) (by omega) Jt h
theorem UB {w:World} {F:List Nat} {v:Value} {xs:List Int} (h:(cints xs).own w F v):∃A c,v=.slice A xs.length c∧F=v.ownBlock.toList∧∀lo,(∀g∈F,lo≤g)→w.ownsRow lo 3 1 v xs.length (xs.map (Value.int .i64)):=by
 obtain ⟨A,c,h1,h2,h3⟩:=QX (s:=1) (fun _=>rfl) (by omega) h;exact ⟨A,c,h1,h2,fun lo hlo=>by have:=h3 lo hlo;rw [Xj] at this;exact this⟩
section
variable {P:Program}
theorem run_append_new (w:World) (base:Nat) (t ty e:TypeId) (i:TypeInfo) (z:Value) (size bytes:Nat) (ht:P.underlying t=some (.slice e)) (hi:P.info? e=some i) (hz:i.zero=some z)
  (hsize:i.size=size) (hby:i.bytes=bytes) (hzs:z.cells.size=size) (hsz:0<size)
  (v:Value) (n:Nat) (xs:List Value) (hown:w.ownsRow base e size v n xs)
  (a:Addr) (m c:Nat) (news:List Value) (hl:news.length=m*size) (hnews:∀j u,news[j]?=some u→w.cell? (a.add j)=some u) (h1:∀u∈news,u.oneCell'=true)
  (h63:n+m≤maxLen) (hbytes:(n+m)*bytes≤140737488355328) (hbase:base≤w.heap.size) :
  ∃v' w',(Builtin.append_ #[t,t] ty #[v,.slice (some a) m c]).run P w=.ok v' w'∧w'.ownsRow base e size v' (n+m) (xs ++ news)∧w.grownBy w' v.ownBlock ∧
   (∀g,v'.ownBlock=some g→some g=v.ownBlock∨w.heap.size≤g):=by
 rcases hown.2 with ⟨rfl,rfl⟩ | ⟨g,cap,cur,rfl,hbg,hg,hnc,hcm,hcs,htake⟩
 ·have hown':w.ownsRow w.heap.size e size (.slice none 0 0) 0 xs:=⟨hown.1,.inl ⟨rfl,rfl⟩⟩
  obtain ⟨v',w',hr,ho,hg,_⟩:=run_append_own w w.heap.size t ty e i z size bytes ht hi hz hsize hby hzs hsz _ 0 xs hown' a m c news hl hnews h1 h63 hbytes (Nat.le_refl _);exact ⟨v',w',hr,ZE ho hbase,hg,fun g hg'=>.inr (ho.lt g hg').1⟩
 ·obtain ⟨v',w',hr,ho,hgr,_⟩:=run_append_own w base t ty e i z size bytes ht hi hz hsize hby hzs hsz _ n xs hown a m c news hl hnews h1 h63 hbytes hbase
  refine ⟨v',w',hr,ho,hgr,fun g' hg' => ?_⟩;subst hsize;subst hby
  by_cases hroom:n+m≤cap
  ·have hfit:n*i.size+news.length≤cur.size:=by rw [hl,hcs,← Nat.add_mul];exact Nat.mul_le_mul_right _ hroom
   have hr2:=run_append_room (P:=P) w t ty e i ht hi g n cap cur hg a m c news hl hnews h1 hroom hfit;rw [hr] at hr2;injection hr2 with e1 _;subst e1;exact .inl (by simpa [Value.ownBlock] using hg'.symm)
  ·have hsmall:n+m≤9223372036854775807:=by simp only [maxLen] at h63;omega
   have holds:∀j u,xs[j]?=some u→w.cell? ((⟨g,0,none⟩:Addr).add j)=some u:=hown.cells (g:=g) rfl;have hr2:=run_append_grow (P:=P) w t ty e i z ht hi hz ⟨g,0,none⟩ n cap xs hown.1 holds a m c news hl hnews (by omega) (by omega) (growslice_fits (by omega) hbytes);rw [hr] at hr2;injection hr2 with e1 _;subst e1;exact .inr (by simp [Value.ownBlock] at hg';omega)
variable {ops:Array Oper} {rest:List Oper} {o:Oper} {a:Act} {Q:Exit→Act→World→Prop}
theorem Xt (wr:World) {t e:TypeId} {z:Value} {size bytes:Nat} (E:El P t e z size bytes) (hgd:o.guard=none) (s x:Operand)
  (ho:o.op=.call { callee:=.builtin .append,args:=#[s,x],argTypes:=#[t,t] })
  (base:Nat) (v:Value) (n:Nat) (xs:List Value) (hown:wr.ownsRow base e size v n xs) (hs:a.eval s=v) (ad:Addr) (m c:Nat) (ys:List Value) (hx:a.eval x=.slice (some ad) m c) (hl:ys.length=m*size) (hc:∀j u,ys[j]?=some u→wr.cell? (ad.add j)=some u) (h1:∀u∈ys,u.oneCell'=true)
  (hn:n+m≤maxLen) (hb:(n+m)*bytes≤140737488355328) (hbase:base≤wr.heap.size)
  (h:∀v' w',w'.ownsRow base e size v' (n+m) (xs ++ ys)→wr.grownBy w' v.ownBlock→(∀g,v'.ownBlock=some g→some g=v.ownBlock∨wr.heap.size≤g)→wpList P ops Q rest (a.put o.dst v') w') :
  wpList P ops Q (o :: rest) a wr:=by
 obtain ⟨i,hi,hz0,hz1,hz2⟩:=info_parts E.hi;obtain ⟨v',w',hr,h2,h3,h4⟩:=run_append_new (P:=P) wr base t o.type e i z size bytes E.ht hi hz0 hz1 hz2 E.hz E.hs v n xs hown ad m c ys hl hc h1 hn hb hbase;refine wpList_plain hgd fun _ hK => ?_;unfold Oper.wp execOp;simp only [ho,resolve,invoke,builtin,Sem.run_bind,Sem.run_pure,Result.andThen_ok,List.map_toArray,List.map_cons,List.map_nil,hs,hx,hr];exact hK _ _ (h v' w' h2 h3 h4)
theorem UZ (wr:World) (g:Nat) (hgs:wr.heap.size=g) {t e:TypeId} {z:Value} {size bytes:Nat} (E:El P t e z size bytes) (hgd:o.guard=none) (s x:Operand)
  (ho:o.op=.call { callee:=.builtin .append,args:=#[s,x],argTypes:=#[t,t] }) (cs:Array Value) (hcs:cs.size=size) (h1:∀u∈cs.toList,u.oneCell'=true)
  (base:Nat) (v:Value) (n:Nat) (xs:List Value) (hown:wr.ownsRow base e size v n xs) (hs:a.eval s=v) (hx:a.eval x=.slice (some ⟨g,0,none⟩) 1 1)
  (hn:n+1≤maxLen) (hb:(n+1)*bytes≤140737488355328) (hbase:base≤wr.heap.size)
  (h:∀v' w',w'.ownsRow base e size v' (n+1) (xs ++ cs.toList)→wr.grownBy w' v.ownBlock→(∀g,v'.ownBlock=some g→some g=v.ownBlock∨wr.heap.size<g)→wpList P ops Q rest (a.put o.dst v') w') :
  wpList P ops Q (o :: rest) a (wr.alloc (.cells cs e)):=by
 subst hgs;refine Xt (wr.alloc (.cells cs e)) E hgd s x ho base v n xs (hown.alloc _) hs ⟨wr.heap.size,0,none⟩ 1 1 cs.toList hx (by simpa using hcs) ?_ h1 hn hb (by simp;omega) fun v' w' k1 k2 k3 => ?_
 ·intro j u hu
  have hadd:(⟨wr.heap.size,0,none⟩:Addr).add j=⟨wr.heap.size,j,none⟩:=by unfold Addr.add;split <;> simp_all
  rw [hadd,cell_of_row _ _ j cs e (0,0) (heap_alloc_new wr _)]
  simpa using hu
 ·exact h v' w' k1 (gbT (World.grownBy_alloc wr _ _) k2) fun g hg=>by
   rcases k3 g hg with h4 | h4
   ·exact .inl h4
   ·exact .inr (by simp at h4;omega)
end
theorem Ku (x:Int × Int × Int):∀u∈c3 x,u.oneCell'=true:=by simp [c3,Value.oneCell']
def mk3 (k:Int) (n:Nat):List (Int × Int × Int):=(List.range n).map fun i:Nat=>(k+3*i,k+3*i+1,k+3*i+1+1)
def mkd3 (k:Int) (xs:List (Int × Int × Int)) (j:Nat):List (Int × Int × Int):=(List.range j).map (fun i:Nat=>(k+3*i,k+3*i+1,k+3*i+1+1)) ++ xs.drop j
theorem mkd3_step (k:Int) (xs:List (Int × Int × Int)) (j:Nat) (h:j<xs.length):(mkd3 k xs j).set j (k+3*j,k+3*j+1,k+3*j+1+1)=mkd3 k xs (j+1):=Kj (fun i:Nat=>(k+3*i,k+3*i+1,k+3*i+1+1)) xs j h
theorem mkd3_len (k:Int) (xs:List (Int × Int × Int)) (j:Nat) (h:j≤xs.length):(mkd3 k xs j).length=xs.length:=by simp [mkd3];omega
theorem mkd3_all (k:Int) (xs:List (Int × Int × Int)) (n:Nat) (h:xs.length=n):mkd3 k xs n=mk3 k n:=by simp [mkd3,mk3,← h]
theorem elStep:El Tryz.prog 36 102 (.agg #[.int .i64 0,.int .i64 0,.int .i64 0]) 3 24:=⟨Tryz.underlying36,by kernel_rfl,rfl,by decide⟩
set_option maxHeartbeats 400000 in
theorem toStep_c (a b c:Int) (w:World) :
  Calls Tryz.prog 109 #[.agg #[.int .i64 a,.int .i64 b,.int .i64 c]] w fun e w'=>e=.returned (.agg #[.int .i64 a,.int .i64 b,.int .i64 c])∧w.grownBy w' none:=by
 go_enter Tryz.func109,Tryz.ntmps109
 go_wp2_with fail;exact bodyPost_ret (by simp [results,Tryz.results109,go_sem]) rfl ⟨rfl,by repeat (first | with_reducible exact gbR _ _ | with_reducible refine gbA ?_ _)⟩
theorem eqStep_c (a b c:Int) (w:World) :
  Calls Tryz.prog 125 #[.agg #[.int .i64 a,.int .i64 b,.int .i64 c],.agg #[.int .i64 a,.int .i64 b,.int .i64 c]] w fun e w'=>e=.returned (.bool true)∧w.grownBy w' none:=by
 go_enter Tryz.func125,Tryz.ntmps125
 go_wp2_with fail
 all_goals
  go_ret;exact ⟨rfl,by repeat (first | with_reducible exact gbR _ _ | with_reducible refine gbA ?_ _)⟩
set_option maxHeartbeats 400000 in
theorem toStepS_c (A:Option Addr) (n c:Nat) (xs:List (Int × Int × Int)) (w:World) (hx:FL c3 3 w A n xs) (hn:n≤1099511627776) :
  Calls Tryz.prog 48 #[.slice A n c] w fun e w'=>∃g,e=.returned (.slice (some ⟨g,0,none⟩) n n)∧w'.ownsRow w.heap.size 102 3 (.slice (some ⟨g,0,none⟩) n n) n (xs.flatMap c3)∧w.grownBy w' none:=by
 have lx:=zH hx.len
 go_enter Tryz.func48,Tryz.ntmps48
 go_wp2_with (at_make;refine XK _ elStep rfl _ _ rfl n rfl rfl (by omega) (by unfold maxLen;omega) ?_;intro w1 hown1 hg1;rw [made_flat Uy (by omega) (0,0,0) _ (by rfl)] at hown1)
 have O1:=zH hown1;have G1:=zH hg1;clear hown1 hg1
 go_loopw [4] (fun i wr=>∃k:Nat,k≤n∧i=.int .i64 k∧Hid (wr.ownsRow w.heap.size 102 3 (.slice (some ⟨w.heap.size,0,none⟩) n n) n ((xs.take k ++ List.replicate (xs.length - k) (0,0,0)).flatMap c3))∧Hid (w.grownBy wr none)) (fun i _=>n - (intOf i).toNat)
 case atStart=>exact ⟨0,Nat.zero_le _,rfl,by simpa [Hid,lx.out] using O1.out,G1.out⟩
 case round =>
  obtain ⟨k,hk,rfl,hown,hg⟩:=hrel
  by_cases hlt:k<n
  ·obtain ⟨b,o,x,rfl,hb,hxk,hc⟩:=(FL.grow hx hg.out).cell Uy hlt (by omega)
   obtain ⟨a,b,c⟩:=x;have q0:=hc 0 (by omega);have q1:=hc 1 (by omega);have q2:=hc 2 (by omega);simp only [c3,Nat.add_zero,← Nat.add_assoc,List.getElem?_cons_zero,List.getElem?_cons_succ] at q0 q1 q2;have HX:=zH hxk;have i1:(k:Int)<(n:Int):=by omega
   clear hxk hc;go_wp2_with fail;refine (toStep_c a b c _).mono ?_;rintro e w2 ⟨rfl,h2⟩;have hown2:=Zj hown.out h2;have hl2:((xs.take k ++ List.replicate (xs.length - k) (0,0,0)).flatMap c3).length=n*3:=hown2.1;have hcell:=fun j (hj:j<n*3)=>hown2.cellAt j hj;obtain ⟨u0,t0⟩:∃u,w2.cell? ⟨w.heap.size,k*3+0,none⟩=some u:=⟨_,(hcell (k*3+0) (by omega)).trans (List.getElem?_eq_getElem (by rw [hl2];omega))⟩;have f0:=hown2.frozenAt (k*3+0);obtain ⟨u1,t1⟩:∃u,w2.cell? ⟨w.heap.size,k*3+1,none⟩=some u:=⟨_,(hcell (k*3+1) (by omega)).trans (List.getElem?_eq_getElem (by rw [hl2];omega))⟩;have f1:=hown2.frozenAt (k*3+1);obtain ⟨u2,t2⟩:∃u,w2.cell? ⟨w.heap.size,k*3+2,none⟩=some u:=⟨_,(hcell (k*3+2) (by omega)).trans (List.getElem?_eq_getElem (by rw [hl2];omega))⟩;have f2:=hown2.frozenAt (k*3+2);simp only [Nat.add_zero] at t0 f0;have s0:=hown2.stored (k*3+0) (.int .i64 a);have s1:=s0.1.stored (k*3+1) (.int .i64 b);have s2:=s1.1.stored (k*3+2) (.int .i64 c);have g3:wr.grownBy _ (some w.heap.size):=gbT (gbW h2) (gbT (gbT s0.2 s1.2) s2.2);have hlk:k<xs.length:=by have:=lx.out;omega
   have hxk':xs[k]=(a,b,c):=by have:=HX.out;rw [List.getElem?_eq_getElem hlk] at this;injection this
   have sN:=s2.1;simp only [Nat.add_zero] at sN g3;rw [flat_set3 Uy _ k (by simp;omega) (a,b,c) (.int .i64 a) (.int .i64 b) (.int .i64 c) rfl,← hxk',fillD_step (0,0,0) xs k hlk] at sN;have HN:=zH sN;have G3:=zH (gbN hg.out g3 (fun g e=>by injection e with e;omega));clear s0 s1 s2 sN g3 hown2 hcell hl2 hown;go_wp2_with fail
   go_roundw
   case rel=>exact ⟨k+1,by omega,by go_num,HN.out,G3.out⟩
   case measure=>simp [intOf];omega
  ·have hkn:k=n:=by omega
   subst hkn;go_wp2_with fail;go_ret;have hl:=lx.out;have ho:=hown.out;rw [hl,Nat.sub_self,List.replicate_zero,List.append_nil,List.take_of_length_le (by omega)] at ho;exact ⟨_,rfl,ho,hg.out⟩
set_option maxRecDepth 100000 in
set_option maxHeartbeats 400000 in
theorem eqStepS_c (A B:Option Addr) (n c d:Nat) (xs:List (Int × Int × Int)) (w:World) (hx:FL c3 3 w A n xs) (hy:FL c3 3 w B n xs) (hn:n≤4611686018427387903) :
  Calls Tryz.prog 57 #[.slice A n c,.slice B n d] w fun e w'=>e=.returned (.bool true)∧w.grownBy w' none:=by
 have hd:((n:Int) != (n:Int))=false:=by simp
 go_enter Tryz.func57,Tryz.ntmps57
 go_wp2_with fail
 go_loopw [5] (fun i wr=>∃k:Nat,k≤n∧i=.int .i64 k∧Hid (w.grownBy wr none)) (fun i _=>n - (intOf i).toNat)
 case atStart=>exact ⟨0,Nat.zero_le _,rfl,gbR _ _⟩
 case round =>
  obtain ⟨k,hk,rfl,hg⟩:=hrel
  by_cases hlt:k<n
  ·obtain ⟨b,o,x,rfl,hb,hxk,hc⟩:=(FL.grow hx hg.out).cell Uy hlt (by omega)
   obtain ⟨b',o',x',rfl,hb',hxk',hc'⟩:=(FL.grow hy hg.out).cell Uy hlt (by omega);obtain rfl:x=x':=by rw [hxk] at hxk';injection hxk'
   obtain ⟨a,b,c⟩:=x;have q0:=hc 0 (by omega);have r0:=hc' 0 (by omega);have q1:=hc 1 (by omega);have r1:=hc' 1 (by omega);have q2:=hc 2 (by omega);have r2:=hc' 2 (by omega);simp only [c3,Nat.add_zero,← Nat.add_assoc,List.getElem?_cons_zero,List.getElem?_cons_succ] at q0 r0 q1 r1 q2 r2;have i1:(k:Int)<(n:Int):=by omega
   clear hxk hxk' hc hc';go_wp2_with fail
   go_still_tail 8,(by kernel_rfl)
   go_wp2_with fail;refine (eqStep_c a b c _).mono ?_;rintro e w2 ⟨rfl,h2⟩;have G2:=zH (gbT (gbD hg.out) h2);clear h2;go_wp2_with fail
   go_roundw
   case rel=>exact ⟨k+1,by omega,by go_num,G2.out⟩
   case measure=>simp [intOf];omega
  ·have hkn:k=n:=by omega
   subst hkn;go_wp2_with fail;go_ret;exact ⟨rfl,hg.out⟩
set_option maxHeartbeats 800000 in
theorem markStepS_c (base:Nat) (A:Option Addr) (n c:Nat) (xs:List (Int × Int × Int)) (k0:Int) (w:World) (hx:w.ownsRow base 102 3 (.slice A n c) n (xs.flatMap c3)) (hn:n≤1099511627776) (h0:0≤k0) (h1:k0≤1099511627776) :
  Calls Tryz.prog 58 #[.slice A n c,.int .i64 k0] w fun e w'=>e=.returned (.int .i64 (k0+3*n))∧w'.ownsRow base 102 3 (.slice A n c) n ((mk3 k0 n).flatMap c3)∧w.grownBy w' (A.map (·.block)):=by
 have lx:Hid (xs.length=n):=by have:=hx.1;rw [YT Uy] at this;exact div_of (by omega) this
 go_enter Tryz.func58,Tryz.ntmps58
 go_wp2_with fail
 go_loopw [5,1] (fun i s wr=>∃j:Nat,j≤n∧i=.int .i64 j∧s=.int .i64 (k0+3*j)∧wr.ownsRow base 102 3 (.slice A n c) n ((mkd3 k0 xs j).flatMap c3)∧Hid (w.grownBy wr (A.map (·.block)))) (fun i _ _=>n - (intOf i).toNat)
 case atStart=>exact ⟨0,Nat.zero_le _,rfl,by go_num,by simpa [mkd3] using hx,gbR _ _⟩
 case round =>
  clear hx;obtain ⟨j,hk,rfl,rfl,hown,hg⟩:=hrel
  by_cases hlt:j<n
  ·obtain ⟨g,he⟩:∃g,A=some ⟨g,0,none⟩:=by
    rcases hown.2 with ⟨h,h'⟩ | ⟨g,cap,cur,hv,_⟩
    ·omega
    ·injection hv with hv;exact ⟨g,hv⟩
   subst he;have hl2:((mkd3 k0 xs j).flatMap c3).length=n*3:=hown.1;have hcell:=fun i (hi:i<n*3)=>hown.cellAt i hi;obtain ⟨u0,t0⟩:∃u,wr.cell? ⟨g,j*3+0,none⟩=some u:=⟨_,(hcell (j*3+0) (by omega)).trans (List.getElem?_eq_getElem (by rw [hl2];omega))⟩;have f0:=hown.frozenAt (j*3+0);obtain ⟨u1,t1⟩:∃u,wr.cell? ⟨g,j*3+1,none⟩=some u:=⟨_,(hcell (j*3+1) (by omega)).trans (List.getElem?_eq_getElem (by rw [hl2];omega))⟩;have f1:=hown.frozenAt (j*3+1);obtain ⟨u2,t2⟩:∃u,wr.cell? ⟨g,j*3+2,none⟩=some u:=⟨_,(hcell (j*3+2) (by omega)).trans (List.getElem?_eq_getElem (by rw [hl2];omega))⟩;have f2:=hown.frozenAt (j*3+2);simp only [Nat.add_zero] at t0 f0;have s0:=hown.stored (j*3+0) (.int .i64 (k0+3*j));have s1:=s0.1.stored (j*3+1) (.int .i64 (k0+3*j+1));have s2:=s1.1.stored (j*3+2) (.int .i64 (k0+3*j+1+1));have g3:wr.grownBy _ (some g):=(gbT (gbT s0.2 s1.2) s2.2);have hlk:j<(mkd3 k0 xs j).length:=by have:=lx.out;rw [mkd3_len _ _ _ (by omega)];omega
   have sN:=s2.1;simp only [Nat.add_zero] at sN g3;rw [flat_set3 Uy _ j hlk (k0+3*j,k0+3*j+1,k0+3*j+1+1) (.int .i64 (k0+3*j)) (.int .i64 (k0+3*j+1)) (.int .i64 (k0+3*j+1+1)) rfl,mkd3_step k0 xs j (by have:=lx.out;omega)] at sN;have HN:=zH sN;have G3:=zH (gbT hg.out g3);have i1:(j:Int)<(n:Int):=by omega
   clear s0 s1 s2 sN g3 hcell hl2 hown hlk;go_wp2_with fail
   go_roundw
   case rel=>exact ⟨j+1,by omega,by go_num,by go_num,HN.out,G3.out⟩
   case measure=>simp [intOf];omega
  ·have hkn:j=n:=by omega
   subst hkn;rw [mkd3_all k0 xs j lx.out] at hown;go_wp2_with fail;go_ret;exact ⟨rfl,hown,hg.out⟩
end Go.Proofs.YthaadgdeadbhkaaGreat
