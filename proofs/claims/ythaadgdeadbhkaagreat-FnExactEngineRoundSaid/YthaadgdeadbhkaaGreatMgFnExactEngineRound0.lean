/-
 Small words on memory,of no program: worlds that only grow but for one block (grownBy) chained together;slices that read as lists.
-/
import Derived.Test.YthaadgdeadbhkaaGreatChecked
import Derived.WalkKit
import Derived.WalkSpells
import Derived.WalkLawsBesides
import Derived.Lib.Hide
import Derived.Deep.QuietTactic
import Derived.BigQuiet
import Derived.Deep.Draws
import Derived.Laws.BitsAllLaws
import Derived.Laws.BitsLemmas
open Go.RowKit
set_option linter.unusedVariables false
set_option linter.unusedSimpArgs false
namespace Go.Proofs.YthaadgdeadbhkaaGreat
theorem zF {α:Type _} (l:List α) (i:Nat) (a:α):l.getD i a=l[i]?.getD a:=List.getD_eq_getElem?_getD ..
theorem zE {α:Type _} (l:List α) (i:Nat) (a b:α):(a::l).set (i+1) b=a::l.set i b:=rfl
theorem zD {α:Type _} (l:List α) (a b:α):(a::l).set 0 b=b::l:=rfl
theorem zC {α β:Type _} (f:α → Option β):[].filterMap f=[]:=rfl
theorem zB {α β:Type _} (f:α → Option β) (a:α) (l:List α):(a::l).filterMap f=match f a with|none=>l.filterMap f|some b=>b::l.filterMap f:=List.filterMap_cons ..
theorem zA {α:Type _} (l:List α) (i:Nat) (a:α):l.toArray.setIfInBounds i a=(l.set i a).toArray:=List.setIfInBounds_toArray ..
theorem zH {p : Prop} (h : p) : Hid p:=Lib.hid h
theorem gbT {a b c:World} {r:Option Nat} (h:a.grownBy b r) (k:b.grownBy c r):a.grownBy c r :=
 ⟨k.os.trans h.os,k.tape.trans h.tape,k.output.trans h.output,Nat.le_trans h.size k.size,
  fun i hi hr=>(k.block i (Nat.lt_of_lt_of_le hi h.size) hr).trans (h.block i hi hr)⟩
theorem gbW {a b:World} {r:Option Nat} (h:a.grownBy b none):a.grownBy b r :=
 ⟨h.os,h.tape,h.output,h.size,fun i hi _=>h.block i hi (by simp)⟩
theorem gbN {a b c:World} {r:Option Nat} (h:a.grownBy b none) (k:b.grownBy c r) (hr:∀g,r=some g→a.heap.size≤g):a.grownBy c none :=
 ⟨k.os.trans h.os,k.tape.trans h.tape,k.output.trans h.output,Nat.le_trans h.size k.size,
  fun i hi _=>(k.block i (Nat.lt_of_lt_of_le hi h.size) (fun e=>by have:=hr i e.symm;omega)).trans (h.block i hi (by simp))⟩
theorem gbR (a:World) (r:Option Nat):a.grownBy a r:=World.grownBy.refl a r
theorem gbD {a b:World} {r:Option Nat} (h:a.grownBy b r):a.grownBy b.drew r:=⟨h.os,h.tape,h.output,h.size,h.block⟩
theorem dN (w:World) (a b:Nat):(w.drewN a).drewN b=w.drewN (a+b):=by simp [World.drewN,Nat.add_assoc]
theorem gbDN {a b:World} {r:Option Nat} (h:a.grownBy b r) (n:Nat):a.grownBy (b.drewN n) r:=⟨h.os,h.tape,h.output,h.size,h.block⟩
theorem gbA {a b:World} {r:Option Nat} (h:a.grownBy b r) (o:Obj):a.grownBy (b.alloc o) r :=
 gbT h (World.grownBy_alloc b o r)
theorem gbS {a b:World} {r:Option Nat} (h:a.grownBy b r) {p:Addr} (hp:a.heap.size≤p.block) (u:Value):a.grownBy (b.setCell p u) r :=
 ⟨h.os,h.tape,h.output,by simpa [World.setCell] using h.size,fun i hi hr=>(Below.heap_setCell b p u i (by omega)).trans (h.block i hi hr)⟩
theorem gbBelow {a b:World} (h:a.grownBy b none):Below a.heap.size a b:=⟨h.os,h.tape,h.output,h.size,fun i hi=>h.block i hi (by simp)⟩
theorem gbCell {a b:World} {r:Option Nat} (h:a.grownBy b r) {p:Addr} (hp:p.block<a.heap.size) (hr:some p.block≠r):b.cell? p=a.cell? p :=
 World.cell?_of_block (h.block _ hp hr)
theorem gbFrozen {a b:World} {r:Option Nat} (h:a.grownBy b r) {p:Addr} (hp:p.block<a.heap.size) (hr:some p.block≠r):b.frozen? p=a.frozen? p :=
 World.frozen?_of_block (h.block _ hp hr)
theorem gbk {w w':World} (h:w.grownBy w' none) {p:Addr} {v:Value} (hc:w.cell? p=some v):w'.cell? p=some v:=h.cell hc (by simp)
theorem kA {w:World} {p:Addr} {v:Value} (h:w.cell? p=some v) (o:Obj):(w.alloc o).cell? p=some v:=gbk (World.grownBy_alloc w o none) h
theorem kD {w:World} {p:Addr} {v:Value} (h:w.cell? p=some v):w.drew.cell? p=some v:=h
theorem retB {k l:Bool} (h:k=l):Ending.returned (.bool k)=.returned (.bool l):=by rw [h]
theorem retI {k l:Int} (h:k=l):Ending.returned (.int .i64 k)=.returned (.int .i64 l):=by rw [h]
def Rd (w:World) (sz:Nat) (A:Option Addr) (n:Nat) (xs:List Value):Prop :=
 xs.length=n*sz∧(0<n→∃b o,A=some ⟨b,o,none⟩∧b<w.heap.size∧∀j,j<n*sz→w.cell? ⟨b,o+j,none⟩=xs[j]?)
def Off (A:Option Addr) (r:Option Nat):Prop:=∀a,A=some a→some a.block≠r
theorem Off.no {A:Option Addr}:Off A none:=fun _ _=>by simp
theorem Rd.grown {w w':World} {sz n:Nat} {A:Option Addr} {xs:List Value} {r:Option Nat} (h:Rd w sz A n xs) (hg:w.grownBy w' r) (hr:Off A r):Rd w' sz A n xs:=by
 refine ⟨h.1,fun hn => ?_⟩;obtain ⟨b,o,rfl,hb,hc⟩:=h.2 hn;exact ⟨b,o,rfl,Nat.lt_of_lt_of_le hb hg.size,fun j hj=>(gbCell hg (p:=⟨b,o+j,none⟩) hb (hr ⟨b,o,none⟩ rfl)).trans (hc j hj)⟩
theorem Rd.grow {w w':World} {sz n:Nat} {A:Option Addr} {xs:List Value} (h:Rd w sz A n xs) (hg:w.grownBy w' none):Rd w' sz A n xs:=h.grown hg Off.no
def Ints (w:World) (A:Option Addr) (n:Nat) (zs:List Int):Prop:=Rd w 1 A n (zs.map (Value.int .i64))
theorem Ints.len {w:World} {A:Option Addr} {n:Nat} {zs:List Int} (h:Ints w A n zs):zs.length=n:=by simpa using h.1
theorem Ints.grown {w w':World} {n:Nat} {A:Option Addr} {zs:List Int} {r:Option Nat} (h:Ints w A n zs) (hg:w.grownBy w' r) (hr:Off A r):Ints w' A n zs:=Rd.grown h hg hr
theorem Ints.grow {w w':World} {n:Nat} {A:Option Addr} {zs:List Int} (h:Ints w A n zs) (hg:w.grownBy w' none):Ints w' A n zs:=Rd.grow h hg
theorem Ints.nil (w:World) (A:Option Addr):Ints w A 0 []:=⟨by simp,fun h=>absurd h (by omega)⟩
theorem Ints.at_ {w:World} {A:Option Addr} {n:Nat} {zs:List Int} (h:Ints w A n zs) (hn:0<n) :
  ∃b o,A=some ⟨b,o,none⟩∧b<w.heap.size∧∀j,j<n→w.cell? ⟨b,o+j,none⟩=some (.int .i64 (zs.getD j 0)):=by
 obtain ⟨b,o,e,hb,hc⟩:=h.2 hn;refine ⟨b,o,e,hb,fun j hj => ?_⟩;have hl:=h.len;rw [hc j (by omega)];simp [List.getElem?_map,zF,List.getElem?_eq_getElem (show j<zs.length by omega)]
theorem getI (zs:List Int) (k:Nat) (h:k<zs.length):zs.getD k 0=zs[k]:=by simp [zF,List.getElem?_eq_getElem h]
theorem Rd.ofOwn {w:World} {base:Nat} {e:TypeId} {sz n:Nat} {A:Option Addr} {c:Nat} {xs:List Value} (h:w.ownsRow base e sz (.slice A n c) n xs):Rd w sz A n xs:=by
 refine ⟨h.1,fun hn => ?_⟩
 rcases h.2 with ⟨_,h0⟩ | ⟨g,cap,cur,hv,_,hg,hnc,_,hcs,ht⟩
 ·omega
 ·injection hv with h1 _ h3
  subst h1;subst h3;refine ⟨g,0,rfl,(Array.getElem?_eq_some_iff.1 hg).1,fun j hj => ?_⟩;rw [Nat.zero_add,cell_of_row w g j cur e (0,0) hg,← ht,List.getElem?_take,if_pos hj];simp
theorem own_grown {w w':World} {base:Nat} {e:TypeId} {sz n:Nat} {v:Value} {xs:List Value} {r:Option Nat} (h:w.ownsRow base e sz v n xs) (hg:w.grownBy w' r)
  (hr:v.ownBlock=none∨v.ownBlock≠r):w'.ownsRow base e sz v n xs:=h.kept hg hr
theorem Zu {w w':World} {base:Nat} {e:TypeId} {sz n:Nat} {v:Value} {xs:List Value} (h:w.ownsRow base e sz v n xs) (hg:w.grownBy w' none):w'.ownsRow base e sz v n xs :=
 h.kept hg (by cases h:v.ownBlock <;> simp)
theorem Ye {w:World} {base:Nat} {e:TypeId} {sz n:Nat} {v:Value} {xs:List Value} (h:w.ownsRow base e sz v n xs) :
  ∃A c,v=.slice A n c∧(∀a,A=some a→a.off=0∧a.spot=none∧base≤a.block∧a.block<w.heap.size)∧n≤maxLen:=by
 rcases h.2 with ⟨rfl,rfl⟩ | ⟨g,cap,cur,rfl,hb,hg,hnc,hm,_⟩
 ·exact ⟨none,0,rfl,fun _ h=>by simp at h,by simp⟩
 ·exact ⟨_,_,rfl,fun a ha=>by injection ha with ha;subst ha;exact ⟨rfl,rfl,hb,(Array.getElem?_eq_some_iff.1 hg).1⟩,by omega⟩
theorem ZQ {w:World} {base base':Nat} {e:TypeId} {sz n:Nat} {v:Value} {xs:List Value} (h:w.ownsRow base e sz v n xs) (hb:base'≤base):w.ownsRow base' e sz v n xs:=by
 refine ⟨h.1, ?_⟩
 rcases h.2 with h2 | ⟨g,cap,cur,hv,hg,r⟩
 ·exact .inl h2
 ·exact .inr ⟨g,cap,cur,hv,by omega,r⟩
theorem Xu {w:World} {base base':Nat} {e:TypeId} {sz n:Nat} {v:Value} {xs:List Value} (h:w.ownsRow base e sz v n xs) (hb:∀g,v.ownBlock=some g→base'≤g):w.ownsRow base' e sz v n xs:=by
 refine ⟨h.1, ?_⟩
 rcases h.2 with h2 | ⟨g,cap,cur,rfl,hg,r⟩
 ·exact .inl h2
 ·exact .inr ⟨g,cap,cur,rfl,hb g rfl,r⟩
structure El (P:Program) (t e:TypeId) (z:Value) (size bytes:Nat):Prop where
 ht:P.underlying t=some (.slice e)
 hi:(P.info? e).map (fun i=>(i.zero,i.size,i.bytes))=some (some z,size,bytes)
 hz:z.cells.size=size
 hs:0<size
section
variable {P:Program} {ops:Array Oper} {rest:List Oper} {o:Oper} {a:Act} {Q:Exit→Act→World→Prop}
theorem wp_append1 (wr:World) {t e:TypeId} {z:Value} {size bytes:Nat} (E:El P t e z size bytes) (hgd:o.guard=none) (s x:Operand)
  (ho:o.op=.call { callee:=.builtin .append,args:=#[s,x],argTypes:=#[t,t] }) (cs:Array Value) (hcs:cs.size=size) (h1:∀u∈cs.toList,u.oneCell'=true)
  (base:Nat) (v:Value) (n:Nat) (xs:List Value) (hown:wr.ownsRow base e size v n xs) (hs:a.eval s=v) (hx:a.eval x=.slice (some ⟨wr.heap.size,0,none⟩) 1 1)
  (hn:n+1≤maxLen) (hb:(n+1)*bytes≤140737488355328) (hbase:base≤wr.heap.size)
  (h:∀v' w',w'.ownsRow base e size v' (n+1) (xs ++ cs.toList)→wr.grownBy w' v.ownBlock→wpList P ops Q rest (a.put o.dst v') w') :
  wpList P ops Q (o :: rest) a (wr.alloc (.cells cs e)):=by
 obtain ⟨i,hi,hz0,hz1,hz2⟩:=info_parts E.hi;refine wpList_append_own (wr.alloc (.cells cs e)) hgd s x t ho base e i z size bytes E.ht hi hz0 hz1 hz2 E.hz E.hs v n xs hs (hown.alloc _) ⟨wr.heap.size,0,none⟩ 1 1 cs.toList hx (by simpa using hcs) ?_ h1 hn hb (by simp;omega) fun v' w' k1 k2 _ => ?_
 ·intro j u hu
  have hadd:(⟨wr.heap.size,0,none⟩:Addr).add j=⟨wr.heap.size,j,none⟩:=by unfold Addr.add;split <;> simp_all
  rw [hadd,cell_of_row _ _ j cs e (0,0) (heap_alloc_new wr _)]
  simpa using hu
 ·exact h v' w' k1 (gbT (World.grownBy_alloc wr _ _) k2)
theorem Uv (w:World) {t e:TypeId} {z:Value} {size bytes:Nat} (E:El P t e z size bytes) (hg:o.guard=none) (l c:Operand) (hop:o.op=Op.makeSlice t l c) (n:Nat)
  (hl:a.eval l=.int .i64 n) (hc:a.eval c=.int .i64 n) (hb:bytes*n≤281474976710656) (hn:n≤maxLen)
  (hK:∀w',w'.ownsRow w.heap.size e size (.slice (some ⟨w.heap.size,0,none⟩) n n) n (madeCells z.cells (n*size)).toList→w.grownBy w' none→wpList P ops Q rest (a.put o.dst (.slice (some ⟨w.heap.size,0,none⟩) n n)) w') :
  wpList P ops Q (o :: rest) a w:=by
 obtain ⟨i,hi,hz0,hz1,hz2⟩:=info_parts E.hi;exact wpList_make_full w hg l c t hop w.heap.size e i z size E.ht hi hz0 hz1 .i64 .i64 n n n hl hc rfl rfl (by rw [hz2];exact hb) hn (Nat.le_refl _) hK
end
theorem made_one (z:Value) (n:Nat):(madeCells #[z] (n*1)).toList=List.replicate n z:=by rw [Nat.mul_one];exact toList_madeCells_one z n
theorem UG {α:Type} (f:Nat→α) (xs:List α) (k:Nat) (h:k<xs.length):(((List.range k).map f) ++ xs.drop k).set k (f k)=(List.range (k+1)).map f ++ xs.drop (k+1):=by
 rw [List.set_append_right _ _ (by simp)];simp only [List.length_map,List.length_range,Nat.sub_self];rw [List.drop_eq_getElem_cons h,zD,List.range_succ,List.map_append];simp
theorem range_getD {α:Type} (d:α) (xs:List α) (n:Nat) (h:xs.length=n):(List.range n).map (fun i=>xs.getD i d)=xs:=by
 subst h;apply List.ext_getElem
 ·simp
 ·intro i h1 h2
  simp [zF,List.getElem?_eq_getElem h2]
theorem ownB (A:Option Addr) (n c:Nat):Value.ownBlock (.slice A n c)=A.map (·.block):=by cases A <;> rfl
theorem UH {n:Int} (h:(Lit.int .i64 n).wf=true) : -9223372036854775808≤n∧n≤9223372036854775807:=by
 simp [Lit.wf,IntKind.min,IntKind.max,IntKind.signed,IntKind.bits] at h;omega
theorem take_eq_succ {α:Type} [Inhabited α] (xs ys:List α) (d:α) (k:Nat) (hx:k<xs.length) (hy:k<ys.length) (h:xs.take k=ys.take k) (he:xs[k]?.getD d=ys[k]?.getD d):xs.take (k+1)=ys.take (k+1):=by
 rw [List.take_succ_eq_append_getElem hx,List.take_succ_eq_append_getElem hy,h];simp [List.getElem?_eq_getElem hx,List.getElem?_eq_getElem hy] at he;rw [he]
theorem ne_of_at {α:Type} (xs ys:List α) (d:α) (k:Nat) (he:¬xs[k]?.getD d=ys[k]?.getD d):¬xs=ys:=by
 rintro rfl;exact he rfl
theorem eq_of_take {α:Type} (xs ys:List α) (n:Nat) (hx:xs.length=n) (hy:ys.length=n) (h:xs.take n=ys.take n):xs=ys:=by
 rwa [List.take_of_length_le (by omega),List.take_of_length_le (by omega)] at h
set_option maxHeartbeats 400000 in
theorem eqIntS_c (A B:Option Addr) (n m c d:Nat) (xs ys:List Int) (w:World) (hx:Ints w A n xs) (hy:Ints w B m ys) (hn:n≤4611686018427387903) (hm:m≤4611686018427387903) :
  Calls Tryz.prog 15 #[.slice A n c,.slice B m d] w fun e w'=>e=.returned (.bool (xs == ys))∧∃q,w'=w.drewN q:=by
 have lx:=hx.len;have ly:=hy.len
 by_cases hnm:n=m
 ·subst hnm
  have hd:((n:Int) != (n:Int))=false:=by simp
  have LX:=zH lx;have LY:=zH ly;clear lx ly
  go_enter Tryz.func15,Tryz.ntmps15
  go_wp2_with fail
  go_loopw [5] (fun i w1=>∃k q:Nat,k≤n∧i=.int .i64 k∧w1=w.drewN q∧Hid (xs.take k=ys.take k)) (fun i _=>n - (intOf i).toNat)
  case atStart=>exact ⟨0,0,Nat.zero_le _,rfl,rfl,by simp [Hid]⟩
  case round =>
   obtain ⟨k,q,hk,rfl,rfl,heq⟩:=hrel
   by_cases hlt:k<n
   ·obtain ⟨b,o,rfl,hb,hc⟩:=hx.at_ (by omega)
    obtain ⟨b',o',rfl,hb',hc'⟩:=hy.at_ (by omega);have c1:=hc k hlt;have c2:=hc' k hlt;clear hc hc';have i1:(k:Int)<(n:Int):=by omega
    go_wp2_with fail
    go_quiet (fail)
    go_wp2_with fail
    ·have hne:(xs[k]?.getD 0 != ys[k]?.getD 0)=true:=by assumption
     go_ret;have h1:=LX.out;have h2:=LY.out;have:=ne_of_at xs ys 0 k (by simpa using hne);exact ⟨by simp [this],_,dN ..⟩
    ·have hne:(xs[k]?.getD 0 != ys[k]?.getD 0)=false:=by assumption
     go_roundw
     case rel =>
      have h1:=LX.out;have h2:=LY.out;exact ⟨k+1,_,by omega,by go_num,rfl,take_eq_succ xs ys 0 k (by omega) (by omega) heq.out (by simpa using hne)⟩
     case measure=>simp [intOf];omega
   ·have hkn:k=n:=by omega
    subst hkn;go_wp2_with fail;go_ret;have h1:=LX.out;have h2:=LY.out;exact ⟨by simp [eq_of_take xs ys k h1 h2 heq.out],_,rfl⟩
 ·have hd:((n:Int) != (m:Int))=true:=by simp;omega
  go_enter Tryz.func15,Tryz.ntmps15
  go_wp2_with fail;go_ret;have:¬xs=ys:=by rintro rfl;omega
  exact ⟨by simp [this],0,rfl⟩
def marks (k:Int) (n:Nat):List Int:=(List.range n).map fun i:Nat=>k+(i:Int)
theorem marks_get (k:Int) (n i:Nat) (h:i<n):(marks k n)[i]?.getD 0=k+i:=by simp [marks,h]
set_option maxHeartbeats 400000 in
theorem heldIntS_c (A:Option Addr) (n c:Nat) (k0:Int) (w:World) (hx:Ints w A n (marks k0 n)) (hn:n≤1099511627776) (h0:0≤k0) (h1:k0≤1099511627776) :
  Calls Tryz.prog 21 #[.slice A n c,.int .i64 k0] w fun e w'=>e=.returned (.int .i64 (k0+n))∧w'=w:=by
 go_enter Tryz.func21,Tryz.ntmps21
 go_wp2_with fail
 go_loop [5,1] (fun i s=>∃k:Nat,k≤n∧i=.int .i64 k∧s=.int .i64 (k0+k)) (fun i _=>n - (intOf i).toNat)
 case atStart=>exact ⟨0,Nat.zero_le _,rfl,by go_num⟩
 case round =>
  obtain ⟨k,hk,rfl,rfl⟩:=hrel
  by_cases hlt:k<n
  ·obtain ⟨b,o,rfl,hb,hc⟩:=hx.at_ (by omega)
   have c1:=hc k hlt;rw [zF,marks_get k0 n k hlt] at c1;clear hc;have i1:(k:Int)<(n:Int):=by omega
   go_wp2_with fail
   go_round
   case rel=>exact ⟨k+1,by omega,by go_num,by go_num⟩
   case measure=>simp [intOf];omega
  ·have hkn:k=n:=by omega
   subst hkn;go_wp2_with fail;go_ret;exact ⟨rfl,rfl⟩
theorem YF:El Tryz.prog 22 3 (.int .i64 0) 1 8:=⟨Tryz.underlying22,by kernel_rfl,rfl,by decide⟩
def markd (k0:Int) (xs:List Int) (k:Nat):List Int:=(List.range k).map (fun i:Nat=>k0+(i:Int)) ++ xs.drop k
theorem markd_step (k0:Int) (xs:List Int) (k:Nat) (h:k<xs.length):((markd k0 xs k).map (Value.int .i64)).set k (.int .i64 (k0+k))=(markd k0 xs (k+1)).map (Value.int .i64):=by
 unfold markd;rw [← List.map_set,UG (fun i:Nat=>k0+(i:Int)) xs k h]
theorem markd_all (k0:Int) (xs:List Int) (n:Nat) (h:xs.length=n):markd k0 xs n=marks k0 n:=by simp [markd,marks,← h]
set_option maxHeartbeats 400000 in
theorem markIntS_c (base:Nat) (A:Option Addr) (n c:Nat) (xs:List Int) (k0:Int) (w:World) (hx:w.ownsRow base 3 1 (.slice A n c) n (xs.map (Value.int .i64))) (hn:n≤1099511627776) (h0:0≤k0) (h1:k0≤1099511627776) :
  Calls Tryz.prog 20 #[.slice A n c,.int .i64 k0] w fun e w'=>e=.returned (.int .i64 (k0+n))∧w'.ownsRow base 3 1 (.slice A n c) n ((marks k0 n).map (Value.int .i64))∧w.grownBy w' (A.map (·.block)):=by
 have lx:Hid (xs.length=n):=by have:=hx.1;unfold Hid;simpa using this
 go_enter Tryz.func20,Tryz.ntmps20
 go_wp2_with fail
 go_loopw [5,1] (fun i s wr=>∃k:Nat,k≤n∧i=.int .i64 k∧s=.int .i64 (k0+k)∧wr.ownsRow base 3 1 (.slice A n c) n ((markd k0 xs k).map (Value.int .i64))∧w.grownBy wr (A.map (·.block))) (fun i _ _=>n - (intOf i).toNat)
 case atStart=>exact ⟨0,Nat.zero_le _,rfl,by go_num,by simpa [markd] using hx,gbR _ _⟩
 case round =>
  obtain ⟨k,hk,rfl,rfl,hown,hg⟩:=hrel
  by_cases hlt:k<n
  ·obtain ⟨ad,he⟩:∃g,A=some ⟨g,0,none⟩:=by
    rcases hown.2 with ⟨h,h'⟩ | ⟨g,cap,cur,hv,_⟩
    ·omega
    ·injection hv with hv;exact ⟨g,hv⟩
   subst he;have hcell:=hown.cellAt k (by omega);have hfr:=hown.frozenAt k;have hst:=hown.stored k (.int .i64 (k0+k));rw [markd_step k0 xs k (by have:=lx.out;omega)] at hst;have hl:k<((markd k0 xs k).map (Value.int .i64)).length:=by have:=hown.1;omega
   rw [List.getElem?_eq_getElem hl] at hcell;have Hst:=zH hst;have i1:(k:Int)<(n:Int):=by omega
   clear hst;go_wp2_with fail
   go_roundw
   case rel=>exact ⟨k+1,by omega,by go_num,by go_num,Hst.out.1,gbT hg Hst.out.2⟩
   case measure=>simp [intOf];omega
  ·have hkn:k=n:=by omega
   subst hkn;rw [markd_all k0 xs k lx.out] at hown;go_wp2_with fail;go_ret;exact ⟨rfl,hown,hg⟩
set_option maxHeartbeats 400000 in
theorem toIntS_c (A:Option Addr) (n c:Nat) (zs:List Int) (w:World) (hx:Ints w A n zs) (hn:n≤1099511627776) :
  Calls Tryz.prog 12 #[.slice A n c] w fun e w'=>∃g,e=.returned (.slice (some ⟨g,0,none⟩) n n)∧w'.ownsRow w.heap.size 3 1 (.slice (some ⟨g,0,none⟩) n n) n (zs.map (Value.int .i64))∧w.grownBy w' none:=by
 have lx:=zH hx.len
 go_enter Tryz.func12,Tryz.ntmps12
 go_wp2_with (at_make;refine Uv _ YF rfl _ _ rfl n rfl rfl (by omega) (by unfold maxLen;omega) ?_;intro w1 hown1 hg1;rw [show (Value.int IntKind.i64 0).cells=#[.int .i64 0] from rfl,made_one] at hown1)
 go_loopw [4] (fun i wr=>∃k:Nat,k≤n∧i=.int .i64 k∧wr.ownsRow w.heap.size 3 1 (.slice (some ⟨w.heap.size,0,none⟩) n n) n (((List.range k).map (fun i=>zs.getD i 0) ++ (List.replicate n 0).drop k).map (Value.int .i64))∧w.grownBy wr none) (fun i _=>n - (intOf i).toNat)
 case atStart=>exact ⟨0,Nat.zero_le _,rfl,by simpa using hown1,hg1⟩
 case round =>
  obtain ⟨k,hk,rfl,hown,hg⟩:=hrel
  by_cases hlt:k<n
  ·obtain ⟨b,o,rfl,hb,hc⟩:=(hx.grow hg).at_ (by omega)
   have c1:=hc k hlt;clear hc;have hcell:=hown.cellAt k (by omega);have hfr:=hown.frozenAt k;have hst:=hown.stored k (.int .i64 (zs.getD k 0));rw [← List.map_set,UG (fun i=>zs.getD i 0) _ k (by simp;omega)] at hst;rw [List.getElem?_eq_getElem (by have:=hown.1;omega)] at hcell;have Hst:=zH hst;have i1:(k:Int)<(n:Int):=by omega
   clear hst;go_wp2_with fail
   go_roundw
   case rel=>exact ⟨k+1,by omega,by go_num,by simpa using Hst.out.1,gbN hg Hst.out.2 (by simp)⟩
   case measure=>simp [intOf];omega
  ·have hkn:k=n:=by omega
   subst hkn;go_wp2_with fail;go_ret;rw [range_getD 0 zs k lx.out] at hown;exact ⟨_,rfl,by simpa using hown,hg⟩
def IntsK (k:IntKind) (w:World) (A:Option Addr) (n:Nat) (zs:List Int):Prop:=Rd w 1 A n (zs.map (Value.int k))∧(∀z∈zs,(Lit.int k z).wf=true)
theorem IntsK.ints {w:World} {A:Option Addr} {n:Nat} {zs:List Int} (h:IntsK .i64 w A n zs):Ints w A n zs:=h.1
def fieldB (p:Int):Bool:=[2,3,5,7,11,13,17,19,23,29,31,37,41,43,47,53,59,61,67,71,73,79,83,89,97,101].contains p
def fieldN (p:Nat):Bool:=[2,3,5,7,11,13,17,19,23,29,31,37,41,43,47,53,59,61,67,71,73,79,83,89,97,101].contains p
theorem ZG {p:Int} (h:fieldB p=true):2≤p∧p≤101:=by
 simp [fieldB] at h;omega
theorem VG:∀n:Nat,n<102→fieldB (n:Int)=fieldN n:=by decide +kernel
theorem Xz {p:Int} (h:p<2∨101<p):fieldB p=false:=by
 cases hb:fieldB p with
 | false=>rfl
 | true=>have:=ZG hb;omega
theorem fieldN_yes:∀n:Nat,n<102→2≤n→(∀d:Nat,d<n→2≤d→n % d≠0)→fieldN n=true:=by decide +kernel
theorem fieldN_no:∀n:Nat,n<102→∀d:Nat,d<n→2≤d→n % d=0→fieldN n=false:=by decide +kernel
def noDiv (n d:Nat):Bool:=(List.range d).all fun e=>decide (e<2)||n % e != 0
theorem fieldN_sq:∀n:Nat,n<102→∀d:Nat,d<12→(decide (2≤n)&&decide (n<d*d)&&noDiv n d)=true→fieldN n=true:=by decide +kernel
theorem field_yes {p:Int} (h2:2≤p) (h3:p≤101) (h:∀d:Nat,2≤d→(d:Int)<p→p % (d:Int)≠0):fieldB p=true:=by
 obtain ⟨n,rfl⟩:=Int.eq_ofNat_of_zero_le (show 0≤p by omega);have hf:=VG n (by omega)
 have hy:=fieldN_yes n (by omega) (by omega) fun d hd h2d=>by
  have:=h d h2d (by omega);intro e;apply this;rw [← Int.natCast_emod,e];rfl
 exact hf.trans hy
theorem field_no {p:Int} {d:Nat} (h2:2≤d) (hd:(d:Int)<p) (h:p % (d:Int)=0):fieldB p=false:=by
 by_cases h3:101<p
 ·exact Xz (.inr h3)
 ·obtain ⟨n,rfl⟩:=Int.eq_ofNat_of_zero_le (show 0≤p by omega)
  have hf:=VG n (by omega);exact hf.trans (fieldN_no n (by omega) d (by omega) h2 (by rw [← Int.natCast_emod] at h;omega))
theorem field_sq {p:Int} {d:Nat} (h2:2≤p) (h3:p≤101) (hd:d<12) (hs:p<(d:Int)*(d:Int)) (h:∀e:Nat,2≤e→e<d→p % (e:Int)≠0):fieldB p=true:=by
 obtain ⟨n,rfl⟩:=Int.eq_ofNat_of_zero_le (show 0≤p by omega);have hf:=VG n (by omega)
 have hs':n<d*d:=by
  have:(n:Int)<((d*d:Nat):Int):=by rw [Int.natCast_mul];exact hs
  omega
 refine hf.trans (fieldN_sq n (by omega) d hd ?_);simp only [Bool.and_eq_true,decide_eq_true_eq];refine ⟨⟨by omega,hs'⟩, ?_⟩;unfold noDiv;rw [List.all_eq_true];intro e he;rw [List.mem_range] at he
 by_cases h2e:e<2
 ·simp [h2e]
 ·have:=h e (by omega) he
  have hne:n % e≠0:=fun e'=>this (by rw [← Int.natCast_emod,e'];rfl);simp [hne]
theorem wrap_small {x:Int} (h0 : -1099511627776≤x) (h1:x≤1099511627776):wrap64 x=x:=IntWalk.wrap64_in x ⟨by omega,by omega⟩
theorem Ints.cell {w:World} {A:Option Addr} {n:Nat} {zs:List Int} (h:Ints w A n zs) {k:Nat} (hk:k<n) :
  ∃b o,A=some ⟨b,o,none⟩∧b<w.heap.size∧w.cell? ⟨b,o+k,none⟩=some (.int .i64 (zs.getD k 0)):=by
 obtain ⟨b,o,e,hb,hc⟩:=h.at_ (by omega);exact ⟨b,o,e,hb,hc k hk⟩
def inQ (z a b:Int):Bool:=decide (a≤z)&&decide (z≤b)
theorem inQ_yes {z a b:Int} (h1:a≤z) (h2:z≤b):inQ z a b=true:=by simp [inQ,h1,h2]
theorem inQ_lo {z a b:Int} (h1:z<a):inQ z a b=false:=by
 have:¬a≤z:=by omega
 simp [inQ,this]
theorem inQ_hi {z a b:Int} (h1:b<z):inQ z a b=false:=by
 have:¬z≤b:=by omega
 simp [inQ,this]
theorem Vl {z a b:Int} (h:inQ z a b=true):a≤z∧z≤b:=by simpa [inQ] using h
theorem specInq_c (z a b:Int) (w:World):Calls Tryz.prog 94 #[.int .i64 z,.int .i64 a,.int .i64 b] w fun e w'=>e=.returned (.bool (inQ z a b))∧w=w':=by
 by_cases h1:a≤z
 ·by_cases h2:z≤b
  ·have HQ:=zH (inQ_yes h1 h2)
   go_enter Tryz.func94,Tryz.ntmps94
   go_wp2_with fail;go_ret;exact ⟨retB (by rw [HQ.out]),rfl⟩
  ·have HQ:=zH (inQ_hi (a:=a) (show b<z by omega))
   have h3:¬z≤b:=h2
   go_enter Tryz.func94,Tryz.ntmps94
   go_wp2_with fail;go_ret;exact ⟨retB (by rw [HQ.out]),rfl⟩
 ·have HQ:=zH (inQ_lo (b:=b) (show z<a by omega))
  go_enter Tryz.func94,Tryz.ntmps94
  go_wp2_with fail;go_ret;exact ⟨retB (by rw [HQ.out]),rfl⟩
theorem UI (z a b:Int) (w:World):Calls Tryz.prog 111 #[.int .i64 z,.int .i64 a,.int .i64 b] w fun e w'=>e=.returned (.bool (inQ z a b))∧w=w':=by
 by_cases h1:a≤z
 ·by_cases h2:z≤b
  ·have HQ:=zH (inQ_yes h1 h2)
   go_enter Tryz.func111,Tryz.ntmps111
   go_wp2_with fail;go_ret;exact ⟨retB (by rw [HQ.out]),rfl⟩
  ·have HQ:=zH (inQ_hi (a:=a) (show b<z by omega))
   have h3:¬z≤b:=h2
   go_enter Tryz.func111,Tryz.ntmps111
   go_wp2_with fail;go_ret;exact ⟨retB (by rw [HQ.out]),rfl⟩
 ·have HQ:=zH (inQ_lo (b:=b) (show z<a by omega))
  go_enter Tryz.func111,Tryz.ntmps111
  go_wp2_with fail;go_ret;exact ⟨retB (by rw [HQ.out]),rfl⟩
end Go.Proofs.YthaadgdeadbhkaaGreat
