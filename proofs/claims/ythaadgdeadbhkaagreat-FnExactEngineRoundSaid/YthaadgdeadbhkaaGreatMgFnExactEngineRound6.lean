/-
 append on a row of one's own,once more: where the row lies behind it: where it lay,or in a new block.
-/
import Derived.Test.YthaadgdeadbhkaaGreatMgFnExactEngineRound5
import Derived.StillTailTactics
open Go.RowKit
set_option linter.unusedVariables false
set_option linter.unusedSimpArgs false
namespace Go.Proofs.YthaadgdeadbhkaaGreat
section
variable {P:Program}
theorem run_append_new (w:World) (base:Nat) (t ty e:TypeId) (i:TypeInfo) (z:Value) (size bytes:Nat) (ht:P.underlying t=some (.slice e)) (hi:P.info? e=some i) (hz:i.zero=some z)
  (hsize:i.size=size) (hby:i.bytes=bytes) (hzs:z.cells.size=size) (hsz:0<size)
  (v:Value) (n:Nat) (xs:List Value) (hown:w.ownsRow base e size v n xs)
  (a:Addr) (m c:Nat) (news:List Value) (hl:news.length=m*size) (hnews:∀j u,news[j]?=some u→w.cell? (a.add j)=some u) (h1:∀u∈news,u.oneCell'=true)
  (h63:n+m≤maxLen) (hbytes:(n+m)*bytes≤140737488355328) (hbase:base≤w.heap.size) :
  ∃v' w',(Builtin.append_ #[t,t] ty #[v,.slice (some a) m c]).run P w=.ok v' w'∧w'.ownsRow base e size v' (n+m) (xs ++ news)∧w.grownBy w' v.ownBlock ∧
   (∀g,v'.ownBlock=some g→some g=v.ownBlock∨w.heap.size≤g):=by
 rcases hown.2 with ⟨rfl,rfl⟩ | ⟨g,cap,cur,rfl,hbg,hg,hnc,hcm,hcs,htake⟩
 ·have hown':w.ownsRow w.heap.size e size (.slice none 0 0) 0 xs:=⟨hown.1,.inl ⟨rfl,rfl⟩⟩
  obtain ⟨v',w',hr,ho,hg,_⟩:=run_append_own w w.heap.size t ty e i z size bytes ht hi hz hsize hby hzs hsz _ 0 xs hown' a m c news hl hnews h1 h63 hbytes (Nat.le_refl _);exact ⟨v',w',hr,ZQ ho hbase,hg,fun g hg'=>.inr (ho.lt g hg').1⟩
 ·obtain ⟨v',w',hr,ho,hgr,_⟩:=run_append_own w base t ty e i z size bytes ht hi hz hsize hby hzs hsz _ n xs hown a m c news hl hnews h1 h63 hbytes hbase
  refine ⟨v',w',hr,ho,hgr,fun g' hg' => ?_⟩;subst hsize;subst hby
  by_cases hroom:n+m≤cap
  ·have hfit:n*i.size+news.length≤cur.size:=by rw [hl,hcs,← Nat.add_mul];exact Nat.mul_le_mul_right _ hroom
   have hr2:=run_append_room (P:=P) w t ty e i ht hi g n cap cur hg a m c news hl hnews h1 hroom hfit;rw [hr] at hr2;injection hr2 with e1 _;subst e1;exact .inl (by simpa [Value.ownBlock] using hg'.symm)
  ·have hsmall:n+m≤9223372036854775807:=by simp only [maxLen] at h63;omega
   have holds:∀j u,xs[j]?=some u→w.cell? ((⟨g,0,none⟩:Addr).add j)=some u:=hown.cells (g:=g) rfl;have hr2:=run_append_grow (P:=P) w t ty e i z ht hi hz ⟨g,0,none⟩ n cap xs hown.1 holds a m c news hl hnews (by omega) (by omega) (growslice_fits (by omega) hbytes);rw [hr] at hr2;injection hr2 with e1 _;subst e1;exact .inr (by simp [Value.ownBlock] at hg';omega)
variable {ops:Array Oper} {rest:List Oper} {o:Oper} {a:Act} {Q:Exit→Act→World→Prop}
theorem Wv (wr:World) {t e:TypeId} {z:Value} {size bytes:Nat} (E:El P t e z size bytes) (hgd:o.guard=none) (s x:Operand)
  (ho:o.op=.call { callee:=.builtin .append,args:=#[s,x],argTypes:=#[t,t] })
  (base:Nat) (v:Value) (n:Nat) (xs:List Value) (hown:wr.ownsRow base e size v n xs) (hs:a.eval s=v) (ad:Addr) (m c:Nat) (ys:List Value) (hx:a.eval x=.slice (some ad) m c) (hl:ys.length=m*size) (hc:∀j u,ys[j]?=some u→wr.cell? (ad.add j)=some u) (h1:∀u∈ys,u.oneCell'=true)
  (hn:n+m≤maxLen) (hb:(n+m)*bytes≤140737488355328) (hbase:base≤wr.heap.size)
  (h:∀v' w',w'.ownsRow base e size v' (n+m) (xs ++ ys)→wr.grownBy w' v.ownBlock→(∀g,v'.ownBlock=some g→some g=v.ownBlock∨wr.heap.size≤g)→wpList P ops Q rest (a.put o.dst v') w') :
  wpList P ops Q (o :: rest) a wr:=by
 obtain ⟨i,hi,hz0,hz1,hz2⟩:=info_parts E.hi;obtain ⟨v',w',hr,h2,h3,h4⟩:=run_append_new (P:=P) wr base t o.type e i z size bytes E.ht hi hz0 hz1 hz2 E.hz E.hs v n xs hown ad m c ys hl hc h1 hn hb hbase;refine wpList_plain hgd fun _ hK => ?_;unfold Oper.wp execOp;simp only [ho,resolve,invoke,builtin,Sem.run_bind,Sem.run_pure,Result.andThen_ok,List.map_toArray,List.map_cons,List.map_nil,hs,hx,hr];exact hK _ _ (h v' w' h2 h3 h4)
theorem wp_appendB (wr:World) (g:Nat) (hgs:wr.heap.size=g) {t e:TypeId} {z:Value} {size bytes:Nat} (E:El P t e z size bytes) (hgd:o.guard=none) (s x:Operand)
  (ho:o.op=.call { callee:=.builtin .append,args:=#[s,x],argTypes:=#[t,t] }) (cs:Array Value) (hcs:cs.size=size) (h1:∀u∈cs.toList,u.oneCell'=true)
  (base:Nat) (v:Value) (n:Nat) (xs:List Value) (hown:wr.ownsRow base e size v n xs) (hs:a.eval s=v) (hx:a.eval x=.slice (some ⟨g,0,none⟩) 1 1)
  (hn:n+1≤maxLen) (hb:(n+1)*bytes≤140737488355328) (hbase:base≤wr.heap.size)
  (h:∀v' w',w'.ownsRow base e size v' (n+1) (xs ++ cs.toList)→wr.grownBy w' v.ownBlock→(∀g,v'.ownBlock=some g→some g=v.ownBlock∨wr.heap.size<g)→wpList P ops Q rest (a.put o.dst v') w') :
  wpList P ops Q (o :: rest) a (wr.alloc (.cells cs e)):=by
 subst hgs;refine Wv (wr.alloc (.cells cs e)) E hgd s x ho base v n xs (hown.alloc _) hs ⟨wr.heap.size,0,none⟩ 1 1 cs.toList hx (by simpa using hcs) ?_ h1 hn hb (by simp;omega) fun v' w' k1 k2 k3 => ?_
 ·intro j u hu
  have hadd:(⟨wr.heap.size,0,none⟩:Addr).add j=⟨wr.heap.size,j,none⟩:=by unfold Addr.add;split <;> simp_all
  rw [hadd,cell_of_row _ _ j cs e (0,0) (heap_alloc_new wr _)]
  simpa using hu
 ·exact h v' w' k1 (gbT (World.grownBy_alloc wr _ _) k2) fun g hg=>by
   rcases k3 g hg with h4 | h4
   ·exact .inl h4
   ·exact .inr (by simp at h4;omega)
end
theorem Uh (x:Int × Int × Int):∀u∈c3 x,u.oneCell'=true:=by simp [c3,Value.oneCell']
def mk3 (k:Int) (n:Nat):List (Int × Int × Int):=(List.range n).map fun i:Nat=>(k+3*i,k+3*i+1,k+3*i+1+1)
theorem mk3_at (k:Int) (n i:Nat) (h:i<n):(mk3 k n)[i]?=some (k+3*i,k+3*i+1,k+3*i+1+1):=by simp [mk3,h]
def mkd3 (k:Int) (xs:List (Int × Int × Int)) (j:Nat):List (Int × Int × Int):=(List.range j).map (fun i:Nat=>(k+3*i,k+3*i+1,k+3*i+1+1)) ++ xs.drop j
theorem mkd3_step (k:Int) (xs:List (Int × Int × Int)) (j:Nat) (h:j<xs.length):(mkd3 k xs j).set j (k+3*j,k+3*j+1,k+3*j+1+1)=mkd3 k xs (j+1):=UG (fun i:Nat=>(k+3*i,k+3*i+1,k+3*i+1+1)) xs j h
theorem mkd3_len (k:Int) (xs:List (Int × Int × Int)) (j:Nat) (h:j≤xs.length):(mkd3 k xs j).length=xs.length:=by simp [mkd3];omega
theorem mkd3_all (k:Int) (xs:List (Int × Int × Int)) (n:Nat) (h:xs.length=n):mkd3 k xs n=mk3 k n:=by simp [mkd3,mk3,← h]
theorem elStep:El Tryz.prog 36 102 (.agg #[.int .i64 0,.int .i64 0,.int .i64 0]) 3 24:=⟨Tryz.underlying36,by kernel_rfl,rfl,by decide⟩
set_option maxHeartbeats 400000 in
theorem toStep_c (a b c:Int) (w:World) :
  Calls Tryz.prog 109 #[.agg #[.int .i64 a,.int .i64 b,.int .i64 c]] w fun e w'=>e=.returned (.agg #[.int .i64 a,.int .i64 b,.int .i64 c])∧w.grownBy w' none:=by
 go_enter Tryz.func109,Tryz.ntmps109
 go_wp2_with fail;exact bodyPost_ret (by simp [results,Tryz.results109,go_sem]) rfl ⟨rfl,by repeat (first | with_reducible exact gbR _ _ | with_reducible refine gbA ?_ _)⟩
theorem eqStep_c (a b c:Int) (w:World) :
  Calls Tryz.prog 125 #[.agg #[.int .i64 a,.int .i64 b,.int .i64 c],.agg #[.int .i64 a,.int .i64 b,.int .i64 c]] w fun e w'=>e=.returned (.bool true)∧w.grownBy w' none:=by
 go_enter Tryz.func125,Tryz.ntmps125
 go_wp2_with fail
 all_goals
  go_ret;exact ⟨rfl,by repeat (first | with_reducible exact gbR _ _ | with_reducible refine gbA ?_ _)⟩
set_option maxHeartbeats 400000 in
theorem toStepS_c (A:Option Addr) (n c:Nat) (xs:List (Int × Int × Int)) (w:World) (hx:FL c3 3 w A n xs) (hn:n≤1099511627776) :
  Calls Tryz.prog 48 #[.slice A n c] w fun e w'=>∃g,e=.returned (.slice (some ⟨g,0,none⟩) n n)∧w'.ownsRow w.heap.size 102 3 (.slice (some ⟨g,0,none⟩) n n) n (xs.flatMap c3)∧w.grownBy w' none:=by
 have lx:=zH hx.len
 go_enter Tryz.func48,Tryz.ntmps48
 go_wp2_with (at_make;refine Uv _ elStep rfl _ _ rfl n rfl rfl (by omega) (by unfold maxLen;omega) ?_;intro w1 hown1 hg1;rw [made_flat WU (by omega) (0,0,0) _ (by rfl)] at hown1)
 have O1:=zH hown1;have G1:=zH hg1;clear hown1 hg1
 go_loopw [4] (fun i wr=>∃k:Nat,k≤n∧i=.int .i64 k∧Hid (wr.ownsRow w.heap.size 102 3 (.slice (some ⟨w.heap.size,0,none⟩) n n) n ((xs.take k ++ List.replicate (xs.length - k) (0,0,0)).flatMap c3))∧Hid (w.grownBy wr none)) (fun i _=>n - (intOf i).toNat)
 case atStart=>exact ⟨0,Nat.zero_le _,rfl,by simpa [Hid,lx.out] using O1.out,G1.out⟩
 case round =>
  obtain ⟨k,hk,rfl,hown,hg⟩:=hrel
  by_cases hlt:k<n
  ·obtain ⟨b,o,x,rfl,hb,hxk,hc⟩:=(FL.grow hx hg.out).cell WU hlt (by omega)
   obtain ⟨a,b,c⟩:=x;have q0:=hc 0 (by omega);have q1:=hc 1 (by omega);have q2:=hc 2 (by omega);simp only [c3,Nat.add_zero,← Nat.add_assoc,List.getElem?_cons_zero,List.getElem?_cons_succ] at q0 q1 q2;have HX:=zH hxk;have i1:(k:Int)<(n:Int):=by omega
   clear hxk hc;go_wp2_with fail;refine (toStep_c a b c _).mono ?_;rintro e w2 ⟨rfl,h2⟩;have hown2:=Zu hown.out h2;have hl2:((xs.take k ++ List.replicate (xs.length - k) (0,0,0)).flatMap c3).length=n*3:=hown2.1;have hcell:=fun j (hj:j<n*3)=>hown2.cellAt j hj;obtain ⟨u0,t0⟩:∃u,w2.cell? ⟨w.heap.size,k*3+0,none⟩=some u:=⟨_,(hcell (k*3+0) (by omega)).trans (List.getElem?_eq_getElem (by rw [hl2];omega))⟩;have f0:=hown2.frozenAt (k*3+0);obtain ⟨u1,t1⟩:∃u,w2.cell? ⟨w.heap.size,k*3+1,none⟩=some u:=⟨_,(hcell (k*3+1) (by omega)).trans (List.getElem?_eq_getElem (by rw [hl2];omega))⟩;have f1:=hown2.frozenAt (k*3+1);obtain ⟨u2,t2⟩:∃u,w2.cell? ⟨w.heap.size,k*3+2,none⟩=some u:=⟨_,(hcell (k*3+2) (by omega)).trans (List.getElem?_eq_getElem (by rw [hl2];omega))⟩;have f2:=hown2.frozenAt (k*3+2);simp only [Nat.add_zero] at t0 f0;have s0:=hown2.stored (k*3+0) (.int .i64 a);have s1:=s0.1.stored (k*3+1) (.int .i64 b);have s2:=s1.1.stored (k*3+2) (.int .i64 c);have g3:wr.grownBy _ (some w.heap.size):=gbT (gbW h2) (gbT (gbT s0.2 s1.2) s2.2);have hlk:k<xs.length:=by have:=lx.out;omega
   have hxk':xs[k]=(a,b,c):=by have:=HX.out;rw [List.getElem?_eq_getElem hlk] at this;injection this
   have sN:=s2.1;simp only [Nat.add_zero] at sN g3;rw [flat_set3 WU _ k (by simp;omega) (a,b,c) (.int .i64 a) (.int .i64 b) (.int .i64 c) rfl,← hxk',VI (0,0,0) xs k hlk] at sN;have HN:=zH sN;have G3:=zH (gbN hg.out g3 (fun g e=>by injection e with e;omega));clear s0 s1 s2 sN g3 hown2 hcell hl2 hown;go_wp2_with fail
   go_roundw
   case rel=>exact ⟨k+1,by omega,by go_num,HN.out,G3.out⟩
   case measure=>simp [intOf];omega
  ·have hkn:k=n:=by omega
   subst hkn;go_wp2_with fail;go_ret;have hl:=lx.out;have ho:=hown.out;rw [hl,Nat.sub_self,List.replicate_zero,List.append_nil,List.take_of_length_le (by omega)] at ho;exact ⟨_,rfl,ho,hg.out⟩
set_option maxRecDepth 100000 in
set_option maxHeartbeats 400000 in
theorem eqStepS_c (A B:Option Addr) (n c d:Nat) (xs:List (Int × Int × Int)) (w:World) (hx:FL c3 3 w A n xs) (hy:FL c3 3 w B n xs) (hn:n≤4611686018427387903) :
  Calls Tryz.prog 57 #[.slice A n c,.slice B n d] w fun e w'=>e=.returned (.bool true)∧w.grownBy w' none:=by
 have hd:((n:Int) != (n:Int))=false:=by simp
 go_enter Tryz.func57,Tryz.ntmps57
 go_wp2_with fail
 go_loopw [5] (fun i wr=>∃k:Nat,k≤n∧i=.int .i64 k∧Hid (w.grownBy wr none)) (fun i _=>n - (intOf i).toNat)
 case atStart=>exact ⟨0,Nat.zero_le _,rfl,gbR _ _⟩
 case round =>
  obtain ⟨k,hk,rfl,hg⟩:=hrel
  by_cases hlt:k<n
  ·obtain ⟨b,o,x,rfl,hb,hxk,hc⟩:=(FL.grow hx hg.out).cell WU hlt (by omega)
   obtain ⟨b',o',x',rfl,hb',hxk',hc'⟩:=(FL.grow hy hg.out).cell WU hlt (by omega);obtain rfl:x=x':=by rw [hxk] at hxk';injection hxk'
   obtain ⟨a,b,c⟩:=x;have q0:=hc 0 (by omega);have r0:=hc' 0 (by omega);have q1:=hc 1 (by omega);have r1:=hc' 1 (by omega);have q2:=hc 2 (by omega);have r2:=hc' 2 (by omega);simp only [c3,Nat.add_zero,← Nat.add_assoc,List.getElem?_cons_zero,List.getElem?_cons_succ] at q0 r0 q1 r1 q2 r2;have i1:(k:Int)<(n:Int):=by omega
   clear hxk hxk' hc hc';go_wp2_with fail
   go_still_tail 8,(by kernel_rfl)
   go_wp2_with fail;refine (eqStep_c a b c _).mono ?_;rintro e w2 ⟨rfl,h2⟩;have G2:=zH (gbT (gbD hg.out) h2);clear h2;go_wp2_with fail
   go_roundw
   case rel=>exact ⟨k+1,by omega,by go_num,G2.out⟩
   case measure=>simp [intOf];omega
  ·have hkn:k=n:=by omega
   subst hkn;go_wp2_with fail;go_ret;exact ⟨rfl,hg.out⟩
set_option maxHeartbeats 800000 in
theorem markStepS_c (base:Nat) (A:Option Addr) (n c:Nat) (xs:List (Int × Int × Int)) (k0:Int) (w:World) (hx:w.ownsRow base 102 3 (.slice A n c) n (xs.flatMap c3)) (hn:n≤1099511627776) (h0:0≤k0) (h1:k0≤1099511627776) :
  Calls Tryz.prog 58 #[.slice A n c,.int .i64 k0] w fun e w'=>e=.returned (.int .i64 (k0+3*n))∧w'.ownsRow base 102 3 (.slice A n c) n ((mk3 k0 n).flatMap c3)∧w.grownBy w' (A.map (·.block)):=by
 have lx:Hid (xs.length=n):=by have:=hx.1;rw [ZI WU] at this;exact div_of (by omega) this
 go_enter Tryz.func58,Tryz.ntmps58
 go_wp2_with fail
 go_loopw [5,1] (fun i s wr=>∃j:Nat,j≤n∧i=.int .i64 j∧s=.int .i64 (k0+3*j)∧wr.ownsRow base 102 3 (.slice A n c) n ((mkd3 k0 xs j).flatMap c3)∧Hid (w.grownBy wr (A.map (·.block)))) (fun i _ _=>n - (intOf i).toNat)
 case atStart=>exact ⟨0,Nat.zero_le _,rfl,by go_num,by simpa [mkd3] using hx,gbR _ _⟩
 case round =>
  clear hx;obtain ⟨j,hk,rfl,rfl,hown,hg⟩:=hrel
  by_cases hlt:j<n
  ·obtain ⟨g,he⟩:∃g,A=some ⟨g,0,none⟩:=by
    rcases hown.2 with ⟨h,h'⟩ | ⟨g,cap,cur,hv,_⟩
    ·omega
    ·injection hv with hv;exact ⟨g,hv⟩
   subst he;have hl2:((mkd3 k0 xs j).flatMap c3).length=n*3:=hown.1;have hcell:=fun i (hi:i<n*3)=>hown.cellAt i hi;obtain ⟨u0,t0⟩:∃u,wr.cell? ⟨g,j*3+0,none⟩=some u:=⟨_,(hcell (j*3+0) (by omega)).trans (List.getElem?_eq_getElem (by rw [hl2];omega))⟩;have f0:=hown.frozenAt (j*3+0);obtain ⟨u1,t1⟩:∃u,wr.cell? ⟨g,j*3+1,none⟩=some u:=⟨_,(hcell (j*3+1) (by omega)).trans (List.getElem?_eq_getElem (by rw [hl2];omega))⟩;have f1:=hown.frozenAt (j*3+1);obtain ⟨u2,t2⟩:∃u,wr.cell? ⟨g,j*3+2,none⟩=some u:=⟨_,(hcell (j*3+2) (by omega)).trans (List.getElem?_eq_getElem (by rw [hl2];omega))⟩;have f2:=hown.frozenAt (j*3+2);simp only [Nat.add_zero] at t0 f0;have s0:=hown.stored (j*3+0) (.int .i64 (k0+3*j));have s1:=s0.1.stored (j*3+1) (.int .i64 (k0+3*j+1));have s2:=s1.1.stored (j*3+2) (.int .i64 (k0+3*j+1+1));have g3:wr.grownBy _ (some g):=(gbT (gbT s0.2 s1.2) s2.2);have hlk:j<(mkd3 k0 xs j).length:=by have:=lx.out;rw [mkd3_len _ _ _ (by omega)];omega
   have sN:=s2.1;simp only [Nat.add_zero] at sN g3;rw [flat_set3 WU _ j hlk (k0+3*j,k0+3*j+1,k0+3*j+1+1) (.int .i64 (k0+3*j)) (.int .i64 (k0+3*j+1)) (.int .i64 (k0+3*j+1+1)) rfl,mkd3_step k0 xs j (by have:=lx.out;omega)] at sN;have HN:=zH sN;have G3:=zH (gbT hg.out g3);have i1:(j:Int)<(n:Int):=by omega
   clear s0 s1 s2 sN g3 hcell hl2 hown hlk;go_wp2_with fail
   go_roundw
   case rel=>exact ⟨j+1,by omega,by go_num,by go_num,HN.out,G3.out⟩
   case measure=>simp [intOf];omega
  ·have hkn:j=n:=by omega
   subst hkn;rw [mkd3_all k0 xs j lx.out] at hown;go_wp2_with fail;go_ret;exact ⟨rfl,hown,hg.out⟩
set_option maxHeartbeats 800000 in
theorem heldStepS_c (A:Option Addr) (n c:Nat) (k0:Int) (w:World) (hx:FL c3 3 w A n (mk3 k0 n)) (hn:n≤1099511627776) (h0:0≤k0) (h1:k0≤1099511627776) :
  Calls Tryz.prog 139 #[.slice A n c,.int .i64 k0] w fun e w'=>e=.returned (.int .i64 (k0+3*n))∧w'=w:=by
 go_enter Tryz.func139,Tryz.ntmps139
 go_wp2_with fail
 go_loop [5,1] (fun i s=>∃k:Nat,k≤n∧i=.int .i64 k∧s=.int .i64 (k0+3*k)) (fun i _=>n - (intOf i).toNat)
 case atStart=>exact ⟨0,Nat.zero_le _,rfl,by go_num⟩
 case round =>
  obtain ⟨k,hk,rfl,rfl⟩:=hrel
  by_cases hlt:k<n
  ·obtain ⟨b,o,x,rfl,hb,hxk,hc⟩:=hx.cell WU hlt (by omega)
   rw [mk3_at k0 n k hlt] at hxk;injection hxk with hxk;subst hxk;have q0:=hc 0 (by omega);have q1:=hc 1 (by omega);have q2:=hc 2 (by omega);simp only [c3,Nat.add_zero,← Nat.add_assoc,List.getElem?_cons_zero,List.getElem?_cons_succ] at q0 q1 q2;have i1:(k:Int)<(n:Int):=by omega
   clear hc;go_wp2_with fail
   go_round
   case rel=>exact ⟨k+1,by omega,by go_num,by go_num⟩
   case measure=>simp [intOf];omega
  ·have hkn:k=n:=by omega
   subst hkn;go_wp2_with fail;go_ret;exact ⟨rfl,rfl⟩
def Bools (w:World) (A:Option Addr) (n:Nat) (zs:List Bool):Prop:=Rd w 1 A n (zs.map Value.bool)
theorem Bools.len {w:World} {A:Option Addr} {n:Nat} {zs:List Bool} (h:Bools w A n zs):zs.length=n:=by simpa using h.1
theorem Bools.at_ {w:World} {A:Option Addr} {n:Nat} {zs:List Bool} (h:Bools w A n zs) (hn:0<n) :
  ∃b o,A=some ⟨b,o,none⟩∧b<w.heap.size∧∀j,j<n→w.cell? ⟨b,o+j,none⟩=some (.bool (zs.getD j false)):=by
 obtain ⟨b,o,e,hb,hc⟩:=h.2 hn;refine ⟨b,o,e,hb,fun j hj => ?_⟩;have hl:=h.len;rw [hc j (by omega)];simp [List.getElem?_map,zF,List.getElem?_eq_getElem (show j<zs.length by omega)]
def szO (l m:Nat):Int:=if m≤l then ((l - m:Nat):Int) else -1
theorem ZT {l m:Nat} (h:m≤l):szO l m=((l - m:Nat):Int):=if_pos h
theorem ZV {l m:Nat} (h:l<m):szO l m = -1:=if_neg (by omega)
theorem Zj (c:CS) {w w':World} {F:List Nat} {v:Value} (h:c.own w F v) (hg:w.grownBy w' none):c.own w' F v:=c.kept h fun g hg'=>hg.block g (c.lt h g hg') (by simp)
theorem ZR (c:CS) {w:World} {F:List Nat} {v:Value} (h:c.own w F v) (p:Addr) (hp:p.block∉F) (u:Value):c.own (w.setCell p u) F v:=c.kept h fun g hg'=>Below.heap_setCell w p u g (fun e=>hp (e ▸ hg'))
theorem ZO (c:CS) {w w':World} {F:List Nat} {S:Nat→Prop} {v:Value} (h:c.own w F v) (k:Chg S w w') (hs:∀g∈F,¬S g):c.own w' F v:=c.kept h fun g hg'=>k.block g (c.lt h g hg') (hs g hg')
theorem Ui {w w':World} {cs:List CS} {vs:List Value} {Fs:List (List Nat)} (h:OwnAll w cs vs Fs) (hg:w.grownBy w' none):OwnAll w' cs vs Fs:=h.kept fun g hg'=>hg.block g (h.lt g hg') (by simp)
theorem ZP {w w':World} {g:Nat} {t:TypeId} {cs:Array Value} {S:Nat→Prop} (h:Blk w g t cs) (k:Chg S w w') (hs:¬S g):Blk w' g t cs:=(k.block g h.lt hs).trans h
abbrev csteps (xs:List (Int × Int × Int)):CS:=plst 102 3 c3 xs
theorem Xm (xs:List (Int)) (v:Value) (w:World) (h:(cints xs).rd w v) (hn:xs.length≤1048576) :
  Calls Tryz.prog 12 #[v] w fun e w'=>∃u F,e=.returned u∧(cints xs).own w' F u∧(∀g∈F,w.heap.size≤g)∧w.grownBy w' none:=by
 obtain ⟨A,c,rfl,hc,hm,hI⟩:=ZX (s:=1) (fun _=>rfl) (by omega) h;refine (toIntS_c A _ c xs w (by have:=hI.rd;rw [Yl] at this;exact this) (by omega)).mono ?_;rintro e w' ⟨g,rfl,ho,hg⟩;have hlt:=fun g' hg'=>(ho.lt g' hg').1;exact ⟨_,_,rfl,(by rw [← Yl] at ho;exact Xl (s:=1) (fun _=>rfl) (by omega) UR ho),fun g' hg'=>hlt g' (by simpa using hg'),hg⟩
theorem Ww (xs:List (Int)) (v u:Value) (w:World) (h:(cints xs).rd w v) (k:(cints xs).rd w u) (hn:xs.length≤1048576) :
  Calls Tryz.prog 15 #[v,u] w fun e w'=>e=.returned (.bool true)∧w.grownBy w' none:=by
 obtain ⟨A,c,rfl,hc,hm,hI⟩:=ZX (s:=1) (fun _=>rfl) (by omega) h;obtain ⟨B,d,rfl,hd,_,hJ⟩:=ZX (s:=1) (fun _=>rfl) (by omega) k;refine (eqIntS_c A B _ _ c d xs xs w (by have:=hI.rd;rw [Yl] at this;exact this) (by have:=hJ.rd;rw [Yl] at this;exact this) (by omega) (by omega)).mono ?_;rintro e w' ⟨rfl,q,rfl⟩;exact ⟨by rw [beq_self_eq_true],gbDN (gbR _ _) _⟩
theorem YS (xs:List (Int)) (v:Value) (l:Nat) (w:World) (h:(cints xs).rd w v) (hl:l≤1048576) :
  Calls Tryz.prog 37 #[v,.int .i64 l] w fun e w'=>e=.returned (.int .i64 (szO l xs.length))∧w.grownBy w' none:=by
 obtain ⟨A,c,rfl,hc,hm,hI⟩:=ZX (s:=1) (fun _=>rfl) (by omega) h;have hn:xs.length≤9223372036854775807:=by unfold maxLen at hm;omega
 clear hI hm;generalize xs.length=n at *
 by_cases hb:n≤l
 ·have HB:=zH hb
  have h':¬((l:Int) - (n:Int)<0):=by omega
  go_enter Tryz.func37,Tryz.ntmps37
  go_wp2_with fail;go_ret;exact ⟨retI (by rw [ZT HB.out];omega),gbR _ _⟩
 ·have HB:=zH hb
  have h':(l:Int) - (n:Int)<0:=by omega
  go_enter Tryz.func37,Tryz.ntmps37
  go_wp2_with fail;go_ret;exact ⟨retI (by rw [ZV (by have:=HB.out;omega)]),gbR _ _⟩
theorem Yh (xs:List (Int)) (v:Value) (F:List Nat) (k0:Int) (w:World) (h:(cints xs).own w F v) (hn:xs.length≤1048576) (h0:0≤k0) (h1:k0≤549755813888) :
  Calls Tryz.prog 20 #[v,.int .i64 k0] w fun e w'=>e=.returned (.int .i64 (k0+xs.length))∧(cints (marks k0 xs.length)).own w' F v∧Chg (fun g=>g∈F) w w':=by
 obtain ⟨A,c,rfl,hF,hr⟩:=Wu (s:=1) (fun _=>rfl) (by omega) h;refine (markIntS_c 0 A _ c xs k0 w (by have:=hr 0 (fun _ _=>Nat.zero_le _);rw [Yl] at this;exact this) (by omega) h0 (by omega)).mono ?_;rintro e w' ⟨rfl,ho,hg⟩;subst hF;exact ⟨rfl,(by rw [← Yl] at ho;exact Xl (s:=1) (fun _=>rfl) (by omega) UR ho),Chg.of hg fun g hg'=>by rw [← ownB A xs.length c] at hg';rw [hg'];simp⟩
theorem Wx (n:Nat) (v:Value) (k0:Int) (w:World) (h:(cints (marks k0 n)).rd w v) (hn:n≤1048576) (h0:0≤k0) (h1:k0≤549755813888) :
  Calls Tryz.prog 21 #[v,.int .i64 k0] w fun e w'=>e=.returned (.int .i64 (k0+n))∧w.grownBy w' none:=by
 obtain ⟨A,c,rfl,hc,hm,hI⟩:=ZX (s:=1) (fun _=>rfl) (by omega) h;have hl:(marks k0 n).length=n:=by simp [marks]
 rw [hl] at hI ⊢;refine (heldIntS_c A n c k0 w (by have:=hI.rd;rw [Yl] at this;exact this) (by omega) h0 (by omega)).mono ?_;rintro e w' ⟨rfl,rfl⟩;exact ⟨rfl,gbR _ _⟩
theorem toStepS_k (xs:List (Int × Int × Int)) (v:Value) (w:World) (h:(csteps xs).rd w v) (hn:xs.length≤1048576) :
  Calls Tryz.prog 48 #[v] w fun e w'=>∃u F,e=.returned u∧(csteps xs).own w' F u∧(∀g∈F,w.heap.size≤g)∧w.grownBy w' none:=by
 obtain ⟨A,c,rfl,hc,hm,hI⟩:=ZX (s:=3) (fun _=>rfl) (by omega) h;refine (toStepS_c A _ c xs w hI (by omega)).mono ?_;rintro e w' ⟨g,rfl,ho,hg⟩;have hlt:=fun g' hg'=>(ho.lt g' hg').1;exact ⟨_,_,rfl,(Xl (s:=3) (fun _=>rfl) (by omega) Uh ho),fun g' hg'=>hlt g' (by simpa using hg'),hg⟩
theorem eqStepS_k (xs:List (Int × Int × Int)) (v u:Value) (w:World) (h:(csteps xs).rd w v) (k:(csteps xs).rd w u) (hn:xs.length≤1048576) :
  Calls Tryz.prog 57 #[v,u] w fun e w'=>e=.returned (.bool true)∧w.grownBy w' none:=by
 obtain ⟨A,c,rfl,hc,hm,hI⟩:=ZX (s:=3) (fun _=>rfl) (by omega) h;obtain ⟨B,d,rfl,hd,_,hJ⟩:=ZX (s:=3) (fun _=>rfl) (by omega) k;exact eqStepS_c A B _ c d xs w hI hJ (by omega)
theorem US (xs:List (Int × Int × Int)) (v:Value) (l:Nat) (w:World) (h:(csteps xs).rd w v) (hl:l≤1048576) :
  Calls Tryz.prog 38 #[v,.int .i64 l] w fun e w'=>e=.returned (.int .i64 (szO l xs.length))∧w.grownBy w' none:=by
 obtain ⟨A,c,rfl,hc,hm,hI⟩:=ZX (s:=3) (fun _=>rfl) (by omega) h;have hn:xs.length≤9223372036854775807:=by unfold maxLen at hm;omega
 clear hI hm;generalize xs.length=n at *
 by_cases hb:n≤l
 ·have HB:=zH hb
  have h':¬((l:Int) - (n:Int)<0):=by omega
  go_enter Tryz.func38,Tryz.ntmps38
  go_wp2_with fail;go_ret;exact ⟨retI (by rw [ZT HB.out];omega),gbR _ _⟩
 ·have HB:=zH hb
  have h':(l:Int) - (n:Int)<0:=by omega
  go_enter Tryz.func38,Tryz.ntmps38
  go_wp2_with fail;go_ret;exact ⟨retI (by rw [ZV (by have:=HB.out;omega)]),gbR _ _⟩
theorem markStepS_k (xs:List (Int × Int × Int)) (v:Value) (F:List Nat) (k0:Int) (w:World) (h:(csteps xs).own w F v) (hn:xs.length≤1048576) (h0:0≤k0) (h1:k0≤549755813888) :
  Calls Tryz.prog 58 #[v,.int .i64 k0] w fun e w'=>e=.returned (.int .i64 (k0+3*xs.length))∧(csteps (mk3 k0 xs.length)).own w' F v∧Chg (fun g=>g∈F) w w':=by
 obtain ⟨A,c,rfl,hF,hr⟩:=Wu (s:=3) (fun _=>rfl) (by omega) h;refine (markStepS_c 0 A _ c xs k0 w (hr 0 (fun _ _=>Nat.zero_le _)) (by omega) h0 (by omega)).mono ?_;rintro e w' ⟨rfl,ho,hg⟩;subst hF;exact ⟨rfl,(Xl (s:=3) (fun _=>rfl) (by omega) Uh ho),Chg.of hg fun g hg'=>by rw [← ownB A xs.length c] at hg';rw [hg'];simp⟩
theorem heldStepS_k (n:Nat) (v:Value) (k0:Int) (w:World) (h:(csteps (mk3 k0 n)).rd w v) (hn:n≤1048576) (h0:0≤k0) (h1:k0≤549755813888) :
  Calls Tryz.prog 139 #[v,.int .i64 k0] w fun e w'=>e=.returned (.int .i64 (k0+3*n))∧w.grownBy w' none:=by
 obtain ⟨A,c,rfl,hc,hm,hI⟩:=ZX (s:=3) (fun _=>rfl) (by omega) h;have hl:(mk3 k0 n).length=n:=by simp [mk3]
 rw [hl] at hI ⊢;refine (heldStepS_c A n c k0 w hI (by omega) h0 (by omega)).mono ?_;rintro e w' ⟨rfl,rfl⟩;exact ⟨rfl,gbR _ _⟩
end Go.Proofs.YthaadgdeadbhkaaGreat
