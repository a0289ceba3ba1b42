/-
 Small words on memory,of no program: worlds that only grow but for one block (grownBy) chained together;slices that read as lists.
-/
import Derived.Test.YthaadgdeadbhkaaGreatChecked
import Derived.WalkKit
import Derived.WalkSpells
import Derived.WalkLawsBesides
import Derived.Lib.Hide
import Derived.Deep.QuietTactic
import Derived.BigQuiet
import Derived.Deep.Draws
import Derived.Laws.BitsAllLaws
import Derived.Laws.BitsLemmas
import Derived.Still
open Go.RowKit
set_option linter.unusedVariables false
set_option linter.unusedSimpArgs false
namespace Go.Proofs.YthaadgdeadbhkaaGreat
theorem zF {α:Type _} (l:List α) (i:Nat) (a:α):l.getD i a=l[i]?.getD a:=List.getD_eq_getElem?_getD ..
theorem zE {α:Type _} (l:List α) (i:Nat) (a b:α):(a::l).set (i+1) b=a::l.set i b:=rfl
theorem zD {α:Type _} (l:List α) (a b:α):(a::l).set 0 b=b::l:=rfl
theorem zC {α β:Type _} (f:α → Option β):[].filterMap f=[]:=rfl
theorem zB {α β:Type _} (f:α → Option β) (a:α) (l:List α):(a::l).filterMap f=match f a with|none=>l.filterMap f|some b=>b::l.filterMap f:=List.filterMap_cons ..
theorem zA {α:Type _} (l:List α) (i:Nat) (a:α):l.toArray.setIfInBounds i a=(l.set i a).toArray:=List.setIfInBounds_toArray ..
theorem zH {p : Prop} (h : p) : Hid p:=Lib.hid h
theorem gbT {a b c:World} {r:Option Nat} (h:a.grownBy b r) (k:b.grownBy c r):a.grownBy c r :=
 ⟨k.os.trans h.os,k.tape.trans h.tape,k.output.trans h.output,Nat.le_trans h.size k.size,
  fun i hi hr=>(k.block i (Nat.lt_of_lt_of_le hi h.size) hr).trans (h.block i hi hr)⟩
theorem gbW {a b:World} {r:Option Nat} (h:a.grownBy b none):a.grownBy b r :=
 ⟨h.os,h.tape,h.output,h.size,fun i hi _=>h.block i hi (by simp)⟩
theorem gbN {a b c:World} {r:Option Nat} (h:a.grownBy b none) (k:b.grownBy c r) (hr:∀g,r=some g→a.heap.size≤g):a.grownBy c none :=
 ⟨k.os.trans h.os,k.tape.trans h.tape,k.output.trans h.output,Nat.le_trans h.size k.size,
  fun i hi _=>(k.block i (Nat.lt_of_lt_of_le hi h.size) (fun e=>by have:=hr i e.symm;omega)).trans (h.block i hi (by simp))⟩
theorem gbR (a:World) (r:Option Nat):a.grownBy a r:=World.grownBy.refl a r
theorem gbD {a b:World} {r:Option Nat} (h:a.grownBy b r):a.grownBy b.drew r:=⟨h.os,h.tape,h.output,h.size,h.block⟩
theorem dN (w:World) (a b:Nat):(w.drewN a).drewN b=w.drewN (a+b):=by simp [World.drewN,Nat.add_assoc]
theorem gbDN {a b:World} {r:Option Nat} (h:a.grownBy b r) (n:Nat):a.grownBy (b.drewN n) r:=⟨h.os,h.tape,h.output,h.size,h.block⟩
theorem gbA {a b:World} {r:Option Nat} (h:a.grownBy b r) (o:Obj):a.grownBy (b.alloc o) r :=
 gbT h (World.grownBy_alloc b o r)
theorem gbS {a b:World} {r:Option Nat} (h:a.grownBy b r) {p:Addr} (hp:a.heap.size≤p.block) (u:Value):a.grownBy (b.setCell p u) r :=
 ⟨h.os,h.tape,h.output,by simpa [World.setCell] using h.size,fun i hi hr=>(Below.heap_setCell b p u i (by omega)).trans (h.block i hi hr)⟩
theorem gbBelow {a b:World} (h:a.grownBy b none):Below a.heap.size a b:=⟨h.os,h.tape,h.output,h.size,fun i hi=>h.block i hi (by simp)⟩
theorem gbCell {a b:World} {r:Option Nat} (h:a.grownBy b r) {p:Addr} (hp:p.block<a.heap.size) (hr:some p.block≠r):b.cell? p=a.cell? p :=
 World.cell?_of_block (h.block _ hp hr)
theorem gbFrozen {a b:World} {r:Option Nat} (h:a.grownBy b r) {p:Addr} (hp:p.block<a.heap.size) (hr:some p.block≠r):b.frozen? p=a.frozen? p :=
 World.frozen?_of_block (h.block _ hp hr)
theorem gbk {w w':World} (h:w.grownBy w' none) {p:Addr} {v:Value} (hc:w.cell? p=some v):w'.cell? p=some v:=h.cell hc (by simp)
theorem k1_ {W w:World} {p:Addr} {v:Value} {R:Prop} (h:W.cell? p=some v) (hr:R) (g:R→W.grownBy w none):w.cell? p=some v∧R:=⟨gbk (g hr) h,hr⟩
theorem kA {w:World} {p:Addr} {v:Value} (h:w.cell? p=some v) (o:Obj):(w.alloc o).cell? p=some v:=gbk (World.grownBy_alloc w o none) h
theorem kD {w:World} {p:Addr} {v:Value} (h:w.cell? p=some v):w.drew.cell? p=some v:=h
theorem retB {k l:Bool} (h:k=l):Ending.returned (.bool k)=.returned (.bool l):=by rw [h]
theorem retI {k l:Int} (h:k=l):Ending.returned (.int .i64 k)=.returned (.int .i64 l):=by rw [h]
def Rd (w:World) (sz:Nat) (A:Option Addr) (n:Nat) (xs:List Value):Prop :=
 xs.length=n*sz∧(0<n→∃b o,A=some ⟨b,o,none⟩∧b<w.heap.size∧∀j,j<n*sz→w.cell? ⟨b,o+j,none⟩=xs[j]?)
def Off (A:Option Addr) (r:Option Nat):Prop:=∀a,A=some a→some a.block≠r
theorem Off.no {A:Option Addr}:Off A none:=fun _ _=>by simp
theorem Rd.grown {w w':World} {sz n:Nat} {A:Option Addr} {xs:List Value} {r:Option Nat} (h:Rd w sz A n xs) (hg:w.grownBy w' r) (hr:Off A r):Rd w' sz A n xs:=by
 refine ⟨h.1,fun hn => ?_⟩;obtain ⟨b,o,rfl,hb,hc⟩:=h.2 hn;exact ⟨b,o,rfl,Nat.lt_of_lt_of_le hb hg.size,fun j hj=>(gbCell hg (p:=⟨b,o+j,none⟩) hb (hr ⟨b,o,none⟩ rfl)).trans (hc j hj)⟩
theorem Rd.grow {w w':World} {sz n:Nat} {A:Option Addr} {xs:List Value} (h:Rd w sz A n xs) (hg:w.grownBy w' none):Rd w' sz A n xs:=h.grown hg Off.no
def Ints (w:World) (A:Option Addr) (n:Nat) (zs:List Int):Prop:=Rd w 1 A n (zs.map (Value.int .i64))
theorem Ints.len {w:World} {A:Option Addr} {n:Nat} {zs:List Int} (h:Ints w A n zs):zs.length=n:=by simpa using h.1
theorem Ints.grown {w w':World} {n:Nat} {A:Option Addr} {zs:List Int} {r:Option Nat} (h:Ints w A n zs) (hg:w.grownBy w' r) (hr:Off A r):Ints w' A n zs:=Rd.grown h hg hr
theorem Ints.grow {w w':World} {n:Nat} {A:Option Addr} {zs:List Int} (h:Ints w A n zs) (hg:w.grownBy w' none):Ints w' A n zs:=Rd.grow h hg
theorem Ints.nil (w:World) (A:Option Addr):Ints w A 0 []:=⟨by simp,fun h=>absurd h (by omega)⟩
theorem Ints.at_ {w:World} {A:Option Addr} {n:Nat} {zs:List Int} (h:Ints w A n zs) (hn:0<n) :
  ∃b o,A=some ⟨b,o,none⟩∧b<w.heap.size∧∀j,j<n→w.cell? ⟨b,o+j,none⟩=some (.int .i64 (zs.getD j 0)):=by
 obtain ⟨b,o,e,hb,hc⟩:=h.2 hn;refine ⟨b,o,e,hb,fun j hj => ?_⟩;have hl:=h.len;rw [hc j (by omega)];simp [List.getElem?_map,zF,List.getElem?_eq_getElem (show j<zs.length by omega)]
theorem getI (zs:List Int) (k:Nat) (h:k<zs.length):zs.getD k 0=zs[k]:=by simp [zF,List.getElem?_eq_getElem h]
theorem Rd.ofOwn {w:World} {base:Nat} {e:TypeId} {sz n:Nat} {A:Option Addr} {c:Nat} {xs:List Value} (h:w.ownsRow base e sz (.slice A n c) n xs):Rd w sz A n xs:=by
 refine ⟨h.1,fun hn => ?_⟩
 rcases h.2 with ⟨_,h0⟩ | ⟨g,cap,cur,hv,_,hg,hnc,_,hcs,ht⟩
 ·omega
 ·injection hv with h1 _ h3
  subst h1;subst h3;refine ⟨g,0,rfl,(Array.getElem?_eq_some_iff.1 hg).1,fun j hj => ?_⟩;rw [Nat.zero_add,cell_of_row w g j cur e (0,0) hg,← ht,List.getElem?_take,if_pos hj];simp
theorem Xd {w w':World} {base:Nat} {e:TypeId} {sz n:Nat} {v:Value} {xs:List Value} {r:Option Nat} (h:w.ownsRow base e sz v n xs) (hg:w.grownBy w' r)
  (hr:v.ownBlock=none∨v.ownBlock≠r):w'.ownsRow base e sz v n xs:=h.kept hg hr
theorem Zh {w w':World} {base:Nat} {e:TypeId} {sz n:Nat} {v:Value} {xs:List Value} (h:w.ownsRow base e sz v n xs) (hg:w.grownBy w' none):w'.ownsRow base e sz v n xs :=
 h.kept hg (by cases h:v.ownBlock <;> simp)
theorem Zz {w:World} {base:Nat} {e:TypeId} {sz n:Nat} {v:Value} {xs:List Value} (h:w.ownsRow base e sz v n xs) :
  ∃A c,v=.slice A n c∧(∀a,A=some a→a.off=0∧a.spot=none∧base≤a.block∧a.block<w.heap.size)∧n≤maxLen:=by
 rcases h.2 with ⟨rfl,rfl⟩ | ⟨g,cap,cur,rfl,hb,hg,hnc,hm,_⟩
 ·exact ⟨none,0,rfl,fun _ h=>by simp at h,by simp⟩
 ·exact ⟨_,_,rfl,fun a ha=>by injection ha with ha;subst ha;exact ⟨rfl,rfl,hb,(Array.getElem?_eq_some_iff.1 hg).1⟩,by omega⟩
theorem ZC {w:World} {base base':Nat} {e:TypeId} {sz n:Nat} {v:Value} {xs:List Value} (h:w.ownsRow base e sz v n xs) (hb:base'≤base):w.ownsRow base' e sz v n xs:=by
 refine ⟨h.1, ?_⟩
 rcases h.2 with h2 | ⟨g,cap,cur,hv,hg,r⟩
 ·exact .inl h2
 ·exact .inr ⟨g,cap,cur,hv,by omega,r⟩
theorem Wy {w:World} {base base':Nat} {e:TypeId} {sz n:Nat} {v:Value} {xs:List Value} (h:w.ownsRow base e sz v n xs) (hb:∀g,v.ownBlock=some g→base'≤g):w.ownsRow base' e sz v n xs:=by
 refine ⟨h.1, ?_⟩
 rcases h.2 with h2 | ⟨g,cap,cur,rfl,hg,r⟩
 ·exact .inl h2
 ·exact .inr ⟨g,cap,cur,rfl,hb g rfl,r⟩
structure El (P:Program) (t e:TypeId) (z:Value) (size bytes:Nat):Prop where
 ht:P.underlying t=some (.slice e)
 hi:(P.info? e).map (fun i=>(i.zero,i.size,i.bytes))=some (some z,size,bytes)
 hz:z.cells.size=size
 hs:0<size
section
variable {P:Program} {ops:Array Oper} {rest:List Oper} {o:Oper} {a:Act} {Q:Exit→Act→World→Prop}
theorem wp_append1 (wr:World) {t e:TypeId} {z:Value} {size bytes:Nat} (E:El P t e z size bytes) (hgd:o.guard=none) (s x:Operand)
  (ho:o.op=.call { callee:=.builtin .append,args:=#[s,x],argTypes:=#[t,t] }) (cs:Array Value) (hcs:cs.size=size) (h1:∀u∈cs.toList,u.oneCell'=true)
  (base:Nat) (v:Value) (n:Nat) (xs:List Value) (hown:wr.ownsRow base e size v n xs) (hs:a.eval s=v) (hx:a.eval x=.slice (some ⟨wr.heap.size,0,none⟩) 1 1)
  (hn:n+1≤maxLen) (hb:(n+1)*bytes≤140737488355328) (hbase:base≤wr.heap.size)
  (h:∀v' w',w'.ownsRow base e size v' (n+1) (xs ++ cs.toList)→wr.grownBy w' v.ownBlock→wpList P ops Q rest (a.put o.dst v') w') :
  wpList P ops Q (o :: rest) a (wr.alloc (.cells cs e)):=by
 obtain ⟨i,hi,hz0,hz1,hz2⟩:=info_parts E.hi;refine wpList_append_own (wr.alloc (.cells cs e)) hgd s x t ho base e i z size bytes E.ht hi hz0 hz1 hz2 E.hz E.hs v n xs hs (hown.alloc _) ⟨wr.heap.size,0,none⟩ 1 1 cs.toList hx (by simpa using hcs) ?_ h1 hn hb (by simp;omega) fun v' w' k1 k2 _ => ?_
 ·intro j u hu
  have hadd:(⟨wr.heap.size,0,none⟩:Addr).add j=⟨wr.heap.size,j,none⟩:=by unfold Addr.add;split <;> simp_all
  rw [hadd,cell_of_row _ _ j cs e (0,0) (heap_alloc_new wr _)]
  simpa using hu
 ·exact h v' w' k1 (gbT (World.grownBy_alloc wr _ _) k2)
theorem WZ (w:World) {t e:TypeId} {z:Value} {size bytes:Nat} (E:El P t e z size bytes) (hg:o.guard=none) (l c:Operand) (hop:o.op=Op.makeSlice t l c) (n:Nat)
  (hl:a.eval l=.int .i64 n) (hc:a.eval c=.int .i64 n) (hb:bytes*n≤281474976710656) (hn:n≤maxLen)
  (hK:∀w',w'.ownsRow w.heap.size e size (.slice (some ⟨w.heap.size,0,none⟩) n n) n (madeCells z.cells (n*size)).toList→w.grownBy w' none→wpList P ops Q rest (a.put o.dst (.slice (some ⟨w.heap.size,0,none⟩) n n)) w') :
  wpList P ops Q (o :: rest) a w:=by
 obtain ⟨i,hi,hz0,hz1,hz2⟩:=info_parts E.hi;exact wpList_make_full w hg l c t hop w.heap.size e i z size E.ht hi hz0 hz1 .i64 .i64 n n n hl hc rfl rfl (by rw [hz2];exact hb) hn (Nat.le_refl _) hK
end
theorem Ui (z:Value) (n:Nat):(madeCells #[z] (n*1)).toList=List.replicate n z:=by rw [Nat.mul_one];exact toList_madeCells_one z n
theorem fill_step {α:Type} (f:Nat→α) (xs:List α) (k:Nat) (h:k<xs.length):(((List.range k).map f) ++ xs.drop k).set k (f k)=(List.range (k+1)).map f ++ xs.drop (k+1):=by
 rw [List.set_append_right _ _ (by simp)];simp only [List.length_map,List.length_range,Nat.sub_self];rw [List.drop_eq_getElem_cons h,zD,List.range_succ,List.map_append];simp
theorem range_getD {α:Type} (d:α) (xs:List α) (n:Nat) (h:xs.length=n):(List.range n).map (fun i=>xs.getD i d)=xs:=by
 subst h;apply List.ext_getElem
 ·simp
 ·intro i h1 h2
  simp [zF,List.getElem?_eq_getElem h2]
theorem QV {n:Int} (h:(Lit.int .i64 n).wf=true) : -9223372036854775808≤n∧n≤9223372036854775807:=by
 simp [Lit.wf,IntKind.min,IntKind.max,IntKind.signed,IntKind.bits] at h;omega
theorem Vk {α:Type} [Inhabited α] (xs ys:List α) (d:α) (k:Nat) (hx:k<xs.length) (hy:k<ys.length) (h:xs.take k=ys.take k) (he:xs[k]?.getD d=ys[k]?.getD d):xs.take (k+1)=ys.take (k+1):=by
 rw [List.take_succ_eq_append_getElem hx,List.take_succ_eq_append_getElem hy,h];simp [List.getElem?_eq_getElem hx,List.getElem?_eq_getElem hy] at he;rw [he]
theorem ne_of_at {α:Type} (xs ys:List α) (d:α) (k:Nat) (he:¬xs[k]?.getD d=ys[k]?.getD d):¬xs=ys:=by
 rintro rfl;exact he rfl
theorem UH {α:Type} (xs ys:List α) (n:Nat) (hx:xs.length=n) (hy:ys.length=n) (h:xs.take n=ys.take n):xs=ys:=by
 rwa [List.take_of_length_le (by omega),List.take_of_length_le (by omega)] at h
set_option maxHeartbeats 400000 in
theorem eqIntS_c (A B:Option Addr) (n m c d:Nat) (xs ys:List Int) (w:World) (hx:Ints w A n xs) (hy:Ints w B m ys) (hn:n≤4611686018427387903) (hm:m≤4611686018427387903) :
  Calls Tryz.prog 15 #[.slice A n c,.slice B m d] w fun e w'=>e=.returned (.bool (xs == ys))∧∃q,w'=w.drewN q:=by
 have lx:=hx.len;have ly:=hy.len
 by_cases hnm:n=m
 ·subst hnm
  have hd:((n:Int) != (n:Int))=false:=by simp
  have LX:=zH lx;have LY:=zH ly;clear lx ly
  go_enter Tryz.func15,Tryz.ntmps15
  go_wp2_with fail
  go_loopw [5] (fun i w1=>∃k q:Nat,k≤n∧i=.int .i64 k∧w1=w.drewN q∧Hid (xs.take k=ys.take k)) (fun i _=>n - (intOf i).toNat)
  case atStart=>exact ⟨0,0,Nat.zero_le _,rfl,rfl,by simp [Hid]⟩
  case round =>
   obtain ⟨k,q,hk,rfl,rfl,heq⟩:=hrel
   by_cases hlt:k<n
   ·obtain ⟨b,o,rfl,hb,hc⟩:=hx.at_ (by omega)
    obtain ⟨b',o',rfl,hb',hc'⟩:=hy.at_ (by omega);have c1:=hc k hlt;have c2:=hc' k hlt;clear hc hc';have i1:(k:Int)<(n:Int):=by omega
    go_wp2_with fail
    go_quiet (fail)
    go_wp2_with fail
    ·have hne:(xs[k]?.getD 0 != ys[k]?.getD 0)=true:=by assumption
     go_ret;have h1:=LX.out;have h2:=LY.out;have:=ne_of_at xs ys 0 k (by simpa using hne);exact ⟨by simp [this],_,dN ..⟩
    ·have hne:(xs[k]?.getD 0 != ys[k]?.getD 0)=false:=by assumption
     go_roundw
     case rel =>
      have h1:=LX.out;have h2:=LY.out;exact ⟨k+1,_,by omega,by go_num,rfl,Vk xs ys 0 k (by omega) (by omega) heq.out (by simpa using hne)⟩
     case measure=>simp [intOf];omega
   ·have hkn:k=n:=by omega
    subst hkn;go_wp2_with fail;go_ret;have h1:=LX.out;have h2:=LY.out;exact ⟨by simp [UH xs ys k h1 h2 heq.out],_,rfl⟩
 ·have hd:((n:Int) != (m:Int))=true:=by simp;omega
  go_enter Tryz.func15,Tryz.ntmps15
  go_wp2_with fail;go_ret;have:¬xs=ys:=by rintro rfl;omega
  exact ⟨by simp [this],0,rfl⟩
def marks (k:Int) (n:Nat):List Int:=(List.range n).map fun i:Nat=>k+(i:Int)
theorem ZY:El Tryz.prog 22 3 (.int .i64 0) 1 8:=⟨Tryz.underlying22,by kernel_rfl,rfl,by decide⟩
set_option maxHeartbeats 400000 in
theorem toIntS_c (A:Option Addr) (n c:Nat) (zs:List Int) (w:World) (hx:Ints w A n zs) (hn:n≤1099511627776) :
  Calls Tryz.prog 12 #[.slice A n c] w fun e w'=>∃g,e=.returned (.slice (some ⟨g,0,none⟩) n n)∧w'.ownsRow w.heap.size 3 1 (.slice (some ⟨g,0,none⟩) n n) n (zs.map (Value.int .i64))∧w.grownBy w' none:=by
 have lx:=zH hx.len
 go_enter Tryz.func12,Tryz.ntmps12
 go_wp2_with (at_make;refine WZ _ ZY rfl _ _ rfl n rfl rfl (by omega) (by unfold maxLen;omega) ?_;intro w1 hown1 hg1;rw [show (Value.int IntKind.i64 0).cells=#[.int .i64 0] from rfl,Ui] at hown1)
 go_loopw [4] (fun i wr=>∃k:Nat,k≤n∧i=.int .i64 k∧wr.ownsRow w.heap.size 3 1 (.slice (some ⟨w.heap.size,0,none⟩) n n) n (((List.range k).map (fun i=>zs.getD i 0) ++ (List.replicate n 0).drop k).map (Value.int .i64))∧w.grownBy wr none) (fun i _=>n - (intOf i).toNat)
 case atStart=>exact ⟨0,Nat.zero_le _,rfl,by simpa using hown1,hg1⟩
 case round =>
  obtain ⟨k,hk,rfl,hown,hg⟩:=hrel
  by_cases hlt:k<n
  ·obtain ⟨b,o,rfl,hb,hc⟩:=(hx.grow hg).at_ (by omega)
   have c1:=hc k hlt;clear hc;have hcell:=hown.cellAt k (by omega);have hfr:=hown.frozenAt k;have hst:=hown.stored k (.int .i64 (zs.getD k 0));rw [← List.map_set,fill_step (fun i=>zs.getD i 0) _ k (by simp;omega)] at hst;rw [List.getElem?_eq_getElem (by have:=hown.1;omega)] at hcell;have Hst:=zH hst;have i1:(k:Int)<(n:Int):=by omega
   clear hst;go_wp2_with fail
   go_roundw
   case rel=>exact ⟨k+1,by omega,by go_num,by simpa using Hst.out.1,gbN hg Hst.out.2 (by simp)⟩
   case measure=>simp [intOf];omega
  ·have hkn:k=n:=by omega
   subst hkn;go_wp2_with fail;go_ret;rw [range_getD 0 zs k lx.out] at hown;exact ⟨_,rfl,by simpa using hown,hg⟩
def IntsK (k:IntKind) (w:World) (A:Option Addr) (n:Nat) (zs:List Int):Prop:=Rd w 1 A n (zs.map (Value.int k))∧(∀z∈zs,(Lit.int k z).wf=true)
theorem IntsK.ints {w:World} {A:Option Addr} {n:Nat} {zs:List Int} (h:IntsK .i64 w A n zs):Ints w A n zs:=h.1
def fieldB (p:Int):Bool:=[2,3,5,7,11,13,17,19,23,29,31,37,41,43,47,53,59,61,67,71,73,79,83,89,97,101].contains p
def fieldN (p:Nat):Bool:=[2,3,5,7,11,13,17,19,23,29,31,37,41,43,47,53,59,61,67,71,73,79,83,89,97,101].contains p
theorem ZE {p:Int} (h:fieldB p=true):2≤p∧p≤101:=by
 simp [fieldB] at h;omega
theorem UI:∀n:Nat,n<102→fieldB (n:Int)=fieldN n:=by decide +kernel
theorem XV {p:Int} (h:p<2∨101<p):fieldB p=false:=by
 cases hb:fieldB p with
 | false=>rfl
 | true=>have:=ZE hb;omega
theorem fieldN_yes:∀n:Nat,n<102→2≤n→(∀d:Nat,d<n→2≤d→n % d≠0)→fieldN n=true:=by decide +kernel
theorem fieldN_no:∀n:Nat,n<102→∀d:Nat,d<n→2≤d→n % d=0→fieldN n=false:=by decide +kernel
def noDiv (n d:Nat):Bool:=(List.range d).all fun e=>decide (e<2)||n % e != 0
theorem fieldN_sq:∀n:Nat,n<102→∀d:Nat,d<12→(decide (2≤n)&&decide (n<d*d)&&noDiv n d)=true→fieldN n=true:=by decide +kernel
theorem field_yes {p:Int} (h2:2≤p) (h3:p≤101) (h:∀d:Nat,2≤d→(d:Int)<p→p % (d:Int)≠0):fieldB p=true:=by
 obtain ⟨n,rfl⟩:=Int.eq_ofNat_of_zero_le (show 0≤p by omega);have hf:=UI n (by omega)
 have hy:=fieldN_yes n (by omega) (by omega) fun d hd h2d=>by
  have:=h d h2d (by omega);intro e;apply this;rw [← Int.natCast_emod,e];rfl
 exact hf.trans hy
theorem field_no {p:Int} {d:Nat} (h2:2≤d) (hd:(d:Int)<p) (h:p % (d:Int)=0):fieldB p=false:=by
 by_cases h3:101<p
 ·exact XV (.inr h3)
 ·obtain ⟨n,rfl⟩:=Int.eq_ofNat_of_zero_le (show 0≤p by omega)
  have hf:=UI n (by omega);exact hf.trans (fieldN_no n (by omega) d (by omega) h2 (by rw [← Int.natCast_emod] at h;omega))
theorem field_sq {p:Int} {d:Nat} (h2:2≤p) (h3:p≤101) (hd:d<12) (hs:p<(d:Int)*(d:Int)) (h:∀e:Nat,2≤e→e<d→p % (e:Int)≠0):fieldB p=true:=by
 obtain ⟨n,rfl⟩:=Int.eq_ofNat_of_zero_le (show 0≤p by omega);have hf:=UI n (by omega)
 have hs':n<d*d:=by
  have:(n:Int)<((d*d:Nat):Int):=by rw [Int.natCast_mul];exact hs
  omega
 refine hf.trans (fieldN_sq n (by omega) d hd ?_);simp only [Bool.and_eq_true,decide_eq_true_eq];refine ⟨⟨by omega,hs'⟩, ?_⟩;unfold noDiv;rw [List.all_eq_true];intro e he;rw [List.mem_range] at he
 by_cases h2e:e<2
 ·simp [h2e]
 ·have:=h e (by omega) he
  have hne:n % e≠0:=fun e'=>this (by rw [← Int.natCast_emod,e'];rfl);simp [hne]
theorem Uj (a:Nat) (ha:a<9223372036854775808):(BitVec.ofInt 64 (a:Int)).toNat=a:=by
 rw [BitVec.ofInt_natCast,BitVec.toNat_ofNat];exact Nat.mod_eq_of_lt (by omega)
theorem and_nat (a b:Nat) (ha:a<9223372036854775808) (hb:b<9223372036854775808):bits .and .i64 (a:Int) (b:Int)=((a &&& b:Nat):Int):=by
 have hx:a &&& b<2 ^ 63:=Nat.and_lt_two_pow _ (by omega)
 show IntKind.i64.wrap ((BitVec.ofInt 64 (a:Int) &&& BitVec.ofInt 64 (b:Int)).toNat:Int)=_
 rw [BitVec.toNat_and,Uj a ha,Uj b hb,IntKind.wrap_i64];omega
theorem QW (a b:Nat) (ha:a<9223372036854775808) (hb:b<9223372036854775808):bits .xor .i64 (a:Int) (b:Int)=((a ^^^ b:Nat):Int):=by
 have hx:a ^^^ b<2 ^ 63:=Nat.xor_lt_two_pow (by omega) (by omega)
 show IntKind.i64.wrap ((BitVec.ofInt 64 (a:Int) ^^^ BitVec.ofInt 64 (b:Int)).toNat:Int)=_
 rw [BitVec.toNat_xor,Uj a ha,Uj b hb,IntKind.wrap_i64];omega
theorem wrap_small {x:Int} (h0 : -1099511627776≤x) (h1:x≤1099511627776):wrap64 x=x:=IntWalk.wrap64_in x ⟨by omega,by omega⟩
theorem Ints.cell {w:World} {A:Option Addr} {n:Nat} {zs:List Int} (h:Ints w A n zs) {k:Nat} (hk:k<n) :
  ∃b o,A=some ⟨b,o,none⟩∧b<w.heap.size∧w.cell? ⟨b,o+k,none⟩=some (.int .i64 (zs.getD k 0)):=by
 obtain ⟨b,o,e,hb,hc⟩:=h.at_ (by omega);exact ⟨b,o,e,hb,hc k hk⟩
def inQ (z a b:Int):Bool:=decide (a≤z)&&decide (z≤b)
theorem YC {z a b:Int} (h1:a≤z) (h2:z≤b):inQ z a b=true:=by simp [inQ,h1,h2]
theorem inQ_lo {z a b:Int} (h1:z<a):inQ z a b=false:=by
 have:¬a≤z:=by omega
 simp [inQ,this]
theorem inQ_hi {z a b:Int} (h1:b<z):inQ z a b=false:=by
 have:¬z≤b:=by omega
 simp [inQ,this]
theorem Uk {z a b:Int} (h:inQ z a b=true):a≤z∧z≤b:=by simpa [inQ] using h
theorem YV (z a b:Int) (w:World):Calls Tryz.prog 94 #[.int .i64 z,.int .i64 a,.int .i64 b] w fun e w'=>e=.returned (.bool (inQ z a b))∧w=w':=by
 by_cases h1:a≤z
 ·by_cases h2:z≤b
  ·have HQ:=zH (YC h1 h2)
   go_enter Tryz.func94,Tryz.ntmps94
   go_wp2_with fail;go_ret;exact ⟨retB (by rw [HQ.out]),rfl⟩
  ·have HQ:=zH (inQ_hi (a:=a) (show b<z by omega))
   have h3:¬z≤b:=h2
   go_enter Tryz.func94,Tryz.ntmps94
   go_wp2_with fail;go_ret;exact ⟨retB (by rw [HQ.out]),rfl⟩
 ·have HQ:=zH (inQ_lo (b:=b) (show z<a by omega))
  go_enter Tryz.func94,Tryz.ntmps94
  go_wp2_with fail;go_ret;exact ⟨retB (by rw [HQ.out]),rfl⟩
theorem XW (z:Int) (w:World):Calls Tryz.prog 149 #[.int .i64 z] w fun e w'=>e=.returned (.bool (inQ z 0 4294967295))∧w=w':=by
 go_enter Tryz.func149,Tryz.ntmps149
 go_wp2_with fail;refine (YV z 0 4294967295 _).mono ?_;rintro e w1 ⟨rfl,rfl⟩;go_wp2_with fail;go_ret;exact ⟨rfl,rfl⟩
theorem Xe (z a b:Int) (w:World):Calls Tryz.prog 111 #[.int .i64 z,.int .i64 a,.int .i64 b] w fun e w'=>e=.returned (.bool (inQ z a b))∧w=w':=by
 by_cases h1:a≤z
 ·by_cases h2:z≤b
  ·have HQ:=zH (YC h1 h2)
   go_enter Tryz.func111,Tryz.ntmps111
   go_wp2_with fail;go_ret;exact ⟨retB (by rw [HQ.out]),rfl⟩
  ·have HQ:=zH (inQ_hi (a:=a) (show b<z by omega))
   have h3:¬z≤b:=h2
   go_enter Tryz.func111,Tryz.ntmps111
   go_wp2_with fail;go_ret;exact ⟨retB (by rw [HQ.out]),rfl⟩
 ·have HQ:=zH (inQ_lo (b:=b) (show z<a by omega))
  go_enter Tryz.func111,Tryz.ntmps111
  go_wp2_with fail;go_ret;exact ⟨retB (by rw [HQ.out]),rfl⟩
theorem XX (z:Int) (w:World):Calls Tryz.prog 110 #[.int .i64 z] w fun e w'=>e=.returned (.bool (inQ z 0 4294967295))∧w=w':=by
 go_enter Tryz.func110,Tryz.ntmps110
 go_wp2_with fail;refine (Xe z 0 4294967295 _).mono ?_;rintro e w1 ⟨rfl,rfl⟩;go_wp2_with fail;go_ret;exact ⟨rfl,rfl⟩
def Only (K:Act→World→Prop):Exit→Act→World→Prop
 | .normal,a,w=>K a w
 | _,_,_=>False
theorem XF {K:Act→World→Prop}:¬LetsOut (Only K):=fun ⟨_,_,h⟩=>h
theorem XZ {P:Program} {o:Oper} {a:Act} {w:World} {K K':Act→World→Prop} {Q:Exit→Act→World→Prop} (h:o.wp P a w K (Only K')):o.wp P a w K Q:=by
 unfold Oper.wp at *;generalize (execOp a.eval o).run P w=r at *
 cases r with
 | ok n w' =>
  cases n <;> simp only [Oper.upon] at h ⊢ <;>
   first
    | exact h
    | exact Calls.mono h (fun e w'' he=>by cases e <;> first | exact he | exact False.elim he | exact (XF he).elim)
 | halt x w'=>cases x <;> simp only [Oper.upon] at h ⊢ <;> exact h.elim
def puts (a:Act):List Tmp→(Tmp→Value)→Act
 | [],_=>a
 | d :: ds,f=>puts (a.put (some d) (f d)) ds f
theorem puts_size (f:Tmp→Value):∀(ds:List Tmp) (a:Act),(puts a ds f).tmps.size=a.tmps.size∧(puts a ds f).defers=a.defers
 | [],_=>⟨rfl,rfl⟩
 | d :: ds,a=>by
  obtain ⟨h1,h2⟩:=puts_size f ds (a.put (some d) (f d));exact ⟨by rw [puts,h1];simp [Act.put],by rw [puts,h2];rfl⟩
theorem puts_get (f:Tmp→Value):∀(ds:List Tmp) (a:Act) (t:Tmp),(puts a ds f).tmps[t]?=if t∈ds∧t<a.tmps.size then some (f t) else a.tmps[t]?
 | [],_,_=>by simp [puts]
 | d :: ds,a,t=>by
  rw [puts,puts_get f ds];have hs:(a.put (some d) (f d)).tmps.size=a.tmps.size:=by simp [Act.put]
  rw [hs]
  by_cases h1:t∈ds∧t<a.tmps.size
  ·rw [if_pos h1,if_pos ⟨List.mem_cons_of_mem _ h1.1,h1.2⟩]
  ·rw [if_neg h1]
   show (a.tmps.setIfInBounds d (f d))[t]?=_
   rw [Array.getElem?_setIfInBounds]
   by_cases hd:d=t
   ·subst hd
    by_cases hlt:d<a.tmps.size
    ·simp [hlt]
    ·simp [hlt]
   ·rw [if_neg hd,if_neg]
    intro ⟨h2,h3⟩
    rcases List.mem_cons.1 h2 with h2 | h2
    ·exact hd h2.symm
    ·exact h1 ⟨h2,h3⟩
theorem VV {a a':Act} {ds:List Tmp} (hz:a'.tmps.size=a.tmps.size) (hd:a'.defers=a.defers) (ho:∀t,t∉ds→a'.tmps[t]?=a.tmps[t]?):a'=puts a ds (fun d=>a'.tmps.getD d undef):=by
 have ht:a'.tmps=(puts a ds (fun d=>a'.tmps.getD d undef)).tmps:=by
  apply Array.ext_getElem?;intro t;rw [puts_get]
  split
  ·rename_i h
   simp [hz,h.2]
  ·rename_i h
   by_cases h1:t∈ds
   ·have:a.tmps.size≤t:=by
     rcases Nat.lt_or_ge t a.tmps.size with h2 | h2
     ·exact absurd ⟨h1,h2⟩ h
     ·exact h2
    rw [Array.getElem?_eq_none (by omega),Array.getElem?_eq_none (by omega)]
   ·exact ho t h1
 have h2:=(puts_size (fun d=>a'.tmps.getD d undef) ds a).2;generalize puts a ds (fun d=>a'.tmps.getD d undef)=b at ht h2;rw [hd.symm] at h2
 cases a'
 cases b
 simp only at ht h2;rw [ht,h2]
def dsts (ops:Array Oper):List Tmp:=ops.toList.filterMap (·.dst)
def tAt (T:List (Value→World→Prop)) (k:Nat):Value→World→Prop:=(T[k]?).getD fun _ _=>True
def deps (ops:Array Oper) (T:List (Value→World→Prop)) (f:Tmp→Value) (w:World):List Edge→Prop
 | []=>True
 | e :: es=>(match (ops[e.on]?).bind (·.dst) with | some d=>tAt T e.on (f d) w | none=>True)∧deps ops T f w es
def hop (P:Program) (ops:Array Oper) (T:List (Value→World→Prop)) (W:World) (a0:Act) (o:Oper) (k:Nat):Prop :=
 ∀(f:Tmp→Value) (w:World),W.grownBy w none→deps ops T f w o.after.toList →
  wpList P ops (Only fun a' w'=>∃v,a'=(puts a0 (dsts ops) f).put o.dst v∧w.grownBy w' none∧tAt T k v w') [o] (puts a0 (dsts ops) f) w
def hops (P:Program) (ops:Array Oper) (T:List (Value→World→Prop)) (W:World) (a0:Act):List Oper→Nat→Prop
 | [],_=>True
 | o :: l,k=>hop P ops T W a0 o k∧hops P ops T W a0 l (k+1)
def knows (T:List (Value→World→Prop)) (f:Tmp→Value) (w:World):List Oper→Nat→Prop
 | [],_=>True
 | o :: l,k=>(match o.dst with | some d=>tAt T k (f d) w | none=>True)∧knows T f w l (k+1)
def stable (R:Value→World→Prop):Prop:=∀v w w',R v w→w.grownBy w' none→R v w'
def ZK (T:List (Value→World→Prop)):Prop:=∀R∈T,stable R
theorem stable_at {T:List (Value→World→Prop)} (h:ZK T) (k:Nat):stable (tAt T k):=by
 unfold tAt
 cases hk:T[k]? with
 | none=>exact fun _ _ _ _ _=>trivial
 | some R=>exact h R (List.mem_of_getElem? hk)
def growB (ops:Array Oper):Bool:=(ops.toList.zipIdx.all fun (o,i)=>o.after.all fun e=>e.on<i)&&decide (dsts ops).Nodup&&(ops.toList.all fun o=>o.after.all fun e=>Region.binds .any e)
structure GInv (ops:Array Oper) (T:List (Value→World→Prop)) (W:World) (a0:Act) (listed:Array Bool) (a:Act) (w:World):Prop where
 g:W.grownBy w none
 sz:listed.size=ops.size
 tz:a.tmps.size=a0.tmps.size
 df:a.defers=a0.defers
 out:∀t,t∉dsts ops→a.tmps[t]?=a0.tmps[t]?
 facts:∀k o d,ops[k]?=some o→listed.getD k false=true→o.dst=some d→tAt T k (a.tmps.getD d undef) w
theorem YM {ops:Array Oper} {k:Nat} {o:Oper} {d:Tmp} (h:ops[k]?=some o) (hd:o.dst=some d):d∈dsts ops :=
 List.mem_filterMap.2 ⟨o,Array.mem_toList_iff.2 (Array.mem_of_getElem? h),hd⟩
theorem Yj:∀{l:List Oper},(l.filterMap (·.dst)).Nodup→∀{i j:Nat} {x y:Oper} {d:Tmp},l[i]?=some x→l[j]?=some y→i≠j→x.dst=some d→y.dst≠some d
 | [],_,i,_,_,_,_,hx,_,_,_=>by simp at hx
 | o :: l,h,i,j,x,y,d,hx,hy,hne,hd=>by
  intro hd'
  have hl:(l.filterMap (·.dst)).Nodup:=by
   cases ho:o.dst with
   | none=>simpa [zB,ho] using h
   | some e=>simp only [zB,ho,List.nodup_cons] at h;exact h.2
  cases i with
  | zero =>
   cases j with
   | zero=>exact hne rfl
   | succ j =>
    simp at hx hy;subst hx;simp only [zB,hd,List.nodup_cons] at h;exact h.1 (List.mem_filterMap.2 ⟨y,List.mem_of_getElem? hy,hd'⟩)
  | succ i =>
   cases j with
   | zero =>
    simp at hx hy;subst hy;simp only [zB,hd',List.nodup_cons] at h;exact h.1 (List.mem_filterMap.2 ⟨x,List.mem_of_getElem? hx,hd⟩)
   | succ j =>
    simp at hx hy;exact Yj hl hx hy (by omega) hd hd'
theorem hops_at {P:Program} {ops:Array Oper} {T:List (Value→World→Prop)} {W:World} {a0:Act}:∀{l:List Oper} {k i:Nat} {o:Oper},hops P ops T W a0 l k→l[i]?=some o→hop P ops T W a0 o (k+i)
 | [],_,_,_,_,h=>by simp at h
 | x :: l,k,0,o,h,hi=>by simp at hi;subst hi;exact h.1
 | x :: l,k,i+1,o,h,hi=>by
  simp at hi;have:=hops_at (k:=k+1) (i:=i) h.2 hi
  rwa [show k+1+i=k+(i+1) by omega] at this
theorem knows_of {T:List (Value→World→Prop)} {f:Tmp→Value} {w:World}:∀{l:List Oper} {k:Nat},(∀i o d,l[i]?=some o→o.dst=some d→tAt T (k+i) (f d) w)→knows T f w l k
 | [],_,_=>trivial
 | o :: l,k,h=>by
  refine ⟨?_,knows_of fun i o' d hi hd => ?_⟩
  ·cases hd:o.dst with
   | none=>trivial
   | some d=>exact h 0 o d rfl hd
  ·have:=h (i+1) o' d (by simpa using hi) hd
   rwa [show k+(i+1)=k+1+i by omega] at this
theorem deps_of {ops:Array Oper} {T:List (Value→World→Prop)} {f:Tmp→Value} {w:World}:∀{l:List Edge},(∀e∈l,∀o d,ops[e.on]?=some o→o.dst=some d→tAt T e.on (f d) w)→deps ops T f w l
 | [],_=>trivial
 | e :: l,h=>by
  refine ⟨?_,deps_of fun e' he'=>h e' (List.mem_cons_of_mem _ he')⟩
  cases ho:ops[e.on]? with
  | none=>trivial
  | some o =>
   cases hd:o.dst with
   | none=>simp [hd]
   | some d=>simp only [Option.bind_some,hd];exact h e (List.mem_cons_self ..) o d ho hd
section
variable {P:Program} {ops:Array Oper} {T:List (Value→World→Prop)} {W:World} {a0:Act} {Q:Exit→Act→World→Prop}
theorem GInv.step {listed:Array Bool} {a:Act} {w:World} (hB:growB ops=true) (hsz:∀d∈dsts ops,d<a0.tmps.size) (hst:ZK T) (h:GInv ops T W a0 listed a w) {i:Nat} {o:Oper} (hi:ops[i]?=some o)
  {v:Value} {w':World} (hg:w.grownBy w' none) (hv:tAt T i v w'):GInv ops T W a0 (listed.setIfInBounds i true) (a.put o.dst v) w':=by
 have hnd:(dsts ops).Nodup:=by simp only [growB,Bool.and_eq_true,decide_eq_true_eq] at hB;exact hB.1.2
 refine ⟨gbT h.g hg,by simp [h.sz], ?_, ?_,fun t ht => ?_,fun k ok d hk hl hd => ?_⟩
 ·rw [← h.tz];cases o.dst <;> simp [Act.put]
 ·rw [← h.df];cases o.dst <;> rfl
 ·rw [← h.out t ht]
  cases hd:o.dst with
  | none=>rfl
  | some d =>
   have:d≠t:=fun e=>ht (e ▸ YM hi hd);simp [Act.put,this]
 ·by_cases hik:i=k
  ·subst hik
   obtain rfl:ok=o:=by rw [hi] at hk;injection hk with hk;exact hk.symm
   have h1:d<a.tmps.size:=by rw [h.tz];exact hsz d (YM hi hd)
   have hz:(a.put (some d) v).tmps.getD d undef=v:=by simp [Act.put,h1]
   rw [hd,hz];exact hv
  ·have hl':listed.getD k false=true:=by
    simp only [Array.getD_eq_getD_getElem?,Array.getElem?_setIfInBounds,hik,if_false] at hl ⊢;exact hl
   have hne:o.dst≠some d:=fun e=>Yj hnd (l:=ops.toList) (i:=k) (j:=i) (by simpa using hk) (by simpa using hi) (Ne.symm hik) hd e
   have:(a.put o.dst v).tmps.getD d undef=a.tmps.getD d undef:=by
    cases hod:o.dst with
    | none=>rfl
    | some e =>
     have:e≠d:=fun x=>hne (by rw [hod,x]);simp [Act.put,this]
   rw [this];exact stable_at hst k _ _ _ (h.facts k ok d hk hl' hd) hg
theorem GInv.is {listed:Array Bool} {a:Act} {w:World} (h:GInv ops T W a0 listed a w):a=puts a0 (dsts ops) (fun d=>a.tmps.getD d undef):=VV h.tz h.df h.out
theorem QX (hB:growB ops=true) {i:Nat} {o:Oper} (hi:ops[i]?=some o):∀e∈o.after,Region.binds .any e=true∧e.on<i:=by
 simp only [growB,Bool.and_eq_true,List.all_eq_true,Array.all_eq_true_iff_forall_mem] at hB;intro e he;have h1:=hB.2 o (Array.mem_toList_iff.2 (Array.mem_of_getElem? hi)) e he;have h2:=hB.1.1 (o,i) (by rw [List.mem_zipIdx_iff_getElem?];simpa using hi) e he;exact ⟨h1,by simpa using h2⟩
theorem all_listed (hB:growB ops=true) {listed:Array Bool} (hz:listed.size=ops.size) (hr:Region.ready .any ops listed=[]):∀n k,k<n→k<ops.size→listed.getD k false=true
 | 0,_,h,_=>absurd h (Nat.not_lt_zero _)
 | n+1,k,h,hk=>by
  cases hl:listed.getD k false with
  | true=>rfl
  | false =>
   exfalso
   have:k∈Region.ready .any ops listed:=by
    refine mem_ready.2 ⟨?_,ops[k],Array.getElem?_eq_getElem hk,fun e he _ => ?_⟩
    ·have hk':k<listed.size:=by omega
     simp [hk'] at hl ⊢;exact hl
    ·have h2:=QX hB (Array.getElem?_eq_getElem hk) e he
     exact all_listed hB hz hr n e.on (by omega) (by omega)
   rw [hr] at this
   cases this
theorem Wv {listed:Array Bool} {i n:Nat} (h:listed.toList.countP (fun b=>!b)≤n+1) (hi:listed.getD i true=false):(listed.setIfInBounds i true).toList.countP (fun b=>!b)≤n:=by
 have hlt:i<listed.size:=by
  rcases Nat.lt_or_ge i listed.size with h1 | h1
  ·exact h1
  ·simp [Array.getElem?_eq_none h1] at hi
 have hv:listed[i]=false:=by simpa [hlt] using hi
 rw [Array.toList_setIfInBounds,List.countP_set (by simpa using hlt)];simp only [Array.getElem_toList,hv,Bool.not_false,if_true,Bool.not_true,Bool.false_eq_true,if_false];omega
theorem grow_any (hB:growB ops=true) (hsz:∀d∈dsts ops,d<a0.tmps.size) (hst:ZK T) (hh:hops P ops T W a0 ops.toList 0)
  (fin:∀(f:Tmp→Value) (w:World),W.grownBy w none→knows T f w ops.toList 0→Q .normal (puts a0 (dsts ops) f) w) :
  ∀(fuel:Nat) (listed:Array Bool) (a:Act) (w:World),GInv ops T W a0 listed a w→listed.toList.countP (fun b=>!b)≤fuel→wpAny P .any ops Q fuel listed a w:=by
 have done:∀(listed:Array Bool) (a:Act) (w:World),GInv ops T W a0 listed a w→Region.ready .any ops listed=[]→Q .normal a w:=fun listed a w h hr=>by
  rw [h.is];refine fin _ w h.g (knows_of fun i o d hi hd => ?_);rw [Nat.zero_add];have hi':ops[i]?=some o:=by simpa using hi
  have hk:i<ops.size:=(Array.getElem?_eq_some_iff.1 hi').1;exact h.facts i o d hi' (all_listed hB h.sz hr (i+1) i (by omega) hk) hd
 intro fuel
 induction fuel with
 | zero =>
  intro listed a w h hc
  have hr:Region.ready .any ops listed=[]:=by
   cases hr:Region.ready .any ops listed with
   | nil=>rfl
   | cons i l =>
    exfalso
    have hi:=(mem_ready.1 (show i∈Region.ready .any ops listed by rw [hr];exact List.mem_cons_self ..)).1;have h0:listed.toList.countP (fun b=>!b)=0:=by omega
    rw [List.countP_eq_zero] at h0
    have hlt:i<listed.size:=by
     rcases Nat.lt_or_ge i listed.size with h1 | h1
     ·exact h1
     ·simp [Array.getElem?_eq_none h1] at hi
    have hv:listed[i]=false:=by simpa [hlt] using hi
    have:=h0 listed[i] (Array.getElem_mem_toList hlt);simp [hv] at this
  exact ⟨hr,done listed a w h hr⟩
 | succ fuel ih =>
  intro listed a w h hc;refine ⟨fun hr=>done listed a w h hr,fun i hi => ?_⟩;obtain ⟨hl,o,ho,hall⟩:=mem_ready.1 hi;have hop:=hops_at hh (i:=i) (by simpa using ho);rw [Nat.zero_add] at hop;have h1:=hop (fun d=>a.tmps.getD d undef) w h.g (deps_of fun e he o' d ho' hd=>h.facts e.on o' d ho' (hall e (by simpa using he) ((QX hB ho e (by simpa using he)).1)) hd);rw [← h.is] at h1;unfold wpOp;simp only [ho]
  have next:∀a' w',(∃v,a'=a.put o.dst v∧w.grownBy w' none∧tAt T i v w')→wpAny P .any ops Q fuel (listed.setIfInBounds i true) a' w':=fun a' w' ⟨v,ha,hg,hv⟩=>by
   subst ha;exact ih _ _ _ (h.step hB hsz hst ho hg hv) (Wv hc hl)
  unfold wpList at h1
  split
  ·rename_i hw
   rw [if_pos hw] at h1
   rcases h1 with h1 | h1
   ·exact .inl (XZ (Oper.wp_mono next h1))
   ·exact (XF h1.2).elim
  ·rename_i hw
   rw [if_neg hw] at h1;exact next _ _ h1
theorem Zs {id:Nat} {w:World} (T:List (Value→World→Prop)) (hm:P.follows .mixedOrders=true) (hB:growB ops=true) (hsz:(dsts ops).all (fun d=>d<a0.tmps.size)=true) (hst:ZK T)
  (hh:hops P ops T w.drew a0 ops.toList 0)
  (fin:∀(f:Tmp→Value) (w':World),w.drew.grownBy w' none→knows T f w' ops.toList 0→Q .normal (puts a0 (dsts ops) f) w'):(Code.region id ops true).wp P Q a0 w:=by
 refine wp_region_any hm (grow_any (W:=w.drew) (T:=T) hB (fun d hd=>by simpa using List.all_eq_true.1 hsz d hd) hst hh fin ops.size _ a0 _ ⟨gbR _ _,by simp,rfl,rfl,fun _ _=>rfl, ?_⟩ ?_)
 ·intro k o d hk hl hd
  simp only [Array.getD_eq_getD_getElem?,Array.getElem?_replicate] at hl
  split at hl <;> simp at hl
 ·have:=List.countP_le_length (p:=fun b:Bool=>!b) (l:=(Array.replicate ops.size false).toList)
  simpa using this
end
def isV (x:Value):Value→World→Prop:=fun v _=>v=x
theorem Zb (x:Value):stable (isV x):=fun _ _ _ h _=>h
def Blk (w:World) (g:Nat) (t:TypeId) (cs:Array Value):Prop:=w.heap[g]?=some (.cells cs t (0,0))
section
variable {w w':World} {g:Nat} {t:TypeId} {cs:Array Value}
theorem Blk.lt (h:Blk w g t cs):g<w.heap.size:=(Array.getElem?_eq_some_iff.1 h).1
theorem Blk.cell (h:Blk w g t cs) (i:Nat):w.cell? ⟨g,i,none⟩=cs[i]?:=cell_of_row w g i cs t (0,0) h
theorem Blk.frozen (h:Blk w g t cs) (i:Nat):w.frozen? ⟨g,i,none⟩=false:=by
 unfold Blk at h;simp [World.frozen?,h]
theorem Blk.new (w:World) (t:TypeId) (cs:Array Value):Blk (w.alloc (.cells cs t)) w.heap.size t cs:=heap_alloc_new w _
theorem Blk.grown {r:Option Nat} (h:Blk w g t cs) (hb:w.grownBy w' r) (hg:some g≠r):Blk w' g t cs:=(hb.block g h.lt hg).trans h
theorem Blk.grow (h:Blk w g t cs) (hb:w.grownBy w' none):Blk w' g t cs:=h.grown hb (by simp)
theorem Blk.set_ (h:Blk w g t cs) (i:Nat) (u:Value):Blk (w.setCell ⟨g,i,none⟩ u) g t (cs.setIfInBounds i u):=by
 unfold Blk at h ⊢;simp [World.setCell,Array.getElem?_modify,h]
theorem Blk.far (h:Blk w g t cs) {p:Addr} (hp:g≠p.block) (u:Value):Blk (w.setCell p u) g t cs:=(Below.heap_setCell w p u g hp).trans h
end
def isBox (lo:Nat) (t:TypeId) (cs:Array Value):Value→World→Prop:=fun v w=>∃g,v=.pointer (some ⟨g,0,none⟩)∧lo≤g∧Blk w g t cs
theorem Xf (lo:Nat) (t:TypeId) (cs:Array Value):stable (isBox lo t cs):=fun _ _ _ ⟨g,h1,h2,h3⟩ hg=>⟨g,h1,h2,h3.grow hg⟩
end Go.Proofs.YthaadgdeadbhkaaGreat
