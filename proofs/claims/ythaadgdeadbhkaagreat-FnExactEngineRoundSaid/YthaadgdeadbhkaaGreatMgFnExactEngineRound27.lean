/-
 The laws' helpers on slices of Triples,by what they read as (printed by wip/gen_tripsk.py).
-/
import Derived.Test.YthaadgdeadbhkaaGreatMgFnExactEngineRound26
open Go.RowKit
set_option linter.unusedVariables false
set_option linter.unusedSimpArgs false
namespace Go.Proofs.YthaadgdeadbhkaaGreat
def setL:List CS→Nat→List CS→List CS
 | cs,_,[]=>cs
 | cs,k,d :: ds=>setL (cs.set k d) (k+1) ds
theorem setL_get:∀(ds cs:List CS) (k j:Nat),k+ds.length≤cs.length→(setL cs k ds)[j]?=if k≤j∧j<k+ds.length then ds[j - k]? else cs[j]?
 | [],cs,k,j,h=>by rw [if_neg (by simp only [List.length_nil];omega),setL]
 | d :: ds,cs,k,j,h=>by
  rw [List.length_cons] at h;rw [setL,setL_get ds _ (k+1) j (by rw [List.length_set];omega),List.length_cons]
  by_cases e:j=k
  ·subst e
   rw [if_neg (by omega),if_pos (by omega),Nat.sub_self,List.getElem?_set,if_pos rfl,if_pos (by omega)];rfl
  ·by_cases h1:k+1≤j∧j<k+1+ds.length
   ·rw [if_pos h1,if_pos (by omega),show j - k=(j - (k+1))+1 by omega,List.getElem?_cons_succ]
   ·rw [if_neg h1,if_neg (by omega),List.getElem?_set,if_neg (fun h=>e h.symm)]
theorem flat_setL {α:Type} {sz:Nat} {F:α→List CS} (hF:∀x,(F x).length=sz) (hs:0<sz) (xs:List α) (i:Nat) (hi:i<xs.length) (x:α):setL (xs.flatMap F) (i*sz) (F x)=(xs.set i x).flatMap F:=by
 have hlen:(xs.flatMap F).length=xs.length*sz:=ZI (sz:=sz) hF xs
 have hle:i*sz+sz≤xs.length*sz:=by
  have:=Nat.mul_le_mul_right sz (show i+1≤xs.length by omega)
  rwa [Nat.succ_mul] at this
 apply List.ext_getElem?;intro m;rw [setL_get _ _ _ _ (by rw [hlen,hF];exact hle),Yx hF hs xs,Yx hF hs (xs.set i x),hF];have hm:=Nat.mod_lt m hs;have hdm:=Nat.div_add_mod m sz;rw [Nat.mul_comm] at hdm
 by_cases e:m / sz=i
 ·subst e
  rw [if_pos (by omega),List.getElem?_set,if_pos rfl,if_pos hi,show m - m / sz*sz=m % sz by omega];rfl
 ·rw [if_neg,List.getElem?_set,if_neg (fun h=>e h.symm)]
  intro h;apply e;have h1:m<(i+1)*sz:=by rw [Nat.succ_mul];omega
  have h2:=(Nat.div_lt_iff_lt_mul hs).2 h1;have h3:=(Nat.le_div_iff_mul_le hs).2 h.1;omega
theorem row_sets {e:TypeId} {s g n c:Nat}:∀(ds:List CS) (us:List Value) (Fs:List (List Nat)) (cs:List CS) (w:World) (F:List Nat) (k:Nat),(row e s cs).own w F (.slice (some ⟨g,0,none⟩) n c)→k+ds.length≤cs.length→OwnAll w ds us Fs→(∀y∈Fs.flatten,y∉F) →
  ∃F',(row e s (setL cs k ds)).own (ZW w g k us) F' (.slice (some ⟨g,0,none⟩) n c)∧∀y∈F',y∈F∨y∈Fs.flatten
 | [],us,Fs,cs,w,F,k,h,hk,ho,hd=>by
  have:us=[]:=List.eq_nil_of_length_eq_zero ho.lv;subst this;exact ⟨F,h,fun y hy=>.inl hy⟩
 | d :: ds,us,Fs,cs,w,F,k,h,hk,ho,hd=>by
  obtain ⟨u,vs,F0,Gs,rfl,rfl,o0,o1,dj⟩:=ho.head;rw [List.length_cons] at hk;rw [List.flatten_cons] at hd ⊢;have hgF:g∈F:=row_ob h rfl;obtain ⟨F1,k1,k2⟩:=row_set (i:=k) h (by omega) o0 (fun y hy=>hd y (List.mem_append_left _ hy));have o2:OwnAll (w.setCell ⟨g,k,none⟩ u) ds vs Gs:=o1.kept fun x hx=>(chgS w g k u).block x (o1.lt x hx) (fun e=>hd x (List.mem_append_right _ hx) (e ▸ hgF))
  obtain ⟨F2,m1,m2⟩:=row_sets ds vs Gs (cs.set k d) _ F1 (k+1) k1 (by rw [List.length_set];omega) o2 (fun y hy hy'=>by
   rcases k2 y hy' with h6 | h6
   ·exact hd y (List.mem_append_right _ hy) h6
   ·exact dj y h6 hy)
  refine ⟨F2,m1,fun y hy => ?_⟩
  rcases m2 y hy with h6 | h6
  ·rcases k2 y h6 with h7 | h7
   ·exact .inl h7
   ·exact .inr (List.mem_append_left _ h7)
  ·exact .inr (List.mem_append_right _ h6)
theorem ctriples_set {vs:List TrM} {g n c:Nat} {F:List Nat} {w:World} (h:(Zs vs).own w F (.slice (some ⟨g,0,none⟩) n c)) {i:Nat} (hi:i<vs.length) {x:TrM} {us:List Value} {Fx:List Nat} (hx:AggO w (ctriple x) Fx (.agg us.toArray)) (hd:∀y∈Fx,y∉F) :
  ∃F',(Zs (vs.set i x)).own (ZW w g (i*6) us) F' (.slice (some ⟨g,0,none⟩) n c)∧∀y∈F',y∈F∨y∈Fx:=by
 obtain ⟨ts,Fs,e,ho,rfl⟩:=hx;injection e with e;have e:us=ts:=by have:=congrArg Array.toList e;simpa using this
 subst e;have hlen:(vs.flatMap ctriple).length=vs.length*6:=ZI (sz:=6) (fun _=>rfl) vs;obtain ⟨F',k1,k2⟩:=row_sets (ctriple x) us Fs (vs.flatMap ctriple) w F (i*6) h (by rw [hlen];simp;omega) ho hd;rw [flat_setL (sz:=6) (fun _=>rfl) (by omega) vs i hi x] at k1;exact ⟨F',k1,k2⟩
theorem Xf {xs:List TrM} {w:World} {F:List Nat} {g n c:Nat} (h:(Zs xs).own w F (.slice (some ⟨g,0,none⟩) n c)) {i:Nat} (hi:i<xs.length) (j:Nat) (hj:j<6) :
  ∃u,w.cell? ⟨g,i*6+j,none⟩=some u∧w.frozen? ⟨g,i*6+j,none⟩=false:=by
 have hlen:(xs.flatMap ctriple).length=xs.length*6:=ZI (sz:=6) (fun _=>rfl) xs;have h0:i*6+j<(xs.flatMap ctriple).length:=by rw [hlen];omega
 obtain ⟨u0,F0,a1,a2,_⟩:=row_cell h (List.getElem?_eq_getElem h0);exact ⟨u0,a1,a2⟩
def noT:TrM:=⟨noA,noA,noA⟩
theorem flat_noT (n:Nat):(List.replicate n noT).flatMap ctriple=List.replicate (n*6) (cints []):=by
 induction n with
 | zero=>rfl
 | succ n ih =>
  rw [List.replicate_succ,List.flatMap_cons,ih,show (n+1)*6=n*6+1+1+1+1+1+1 by omega];simp only [List.replicate_succ];rfl
theorem Qp (z:Value) (n:Nat):(madeCells #[z,z,z,z,z,z] (n*6)).toList=List.replicate (n*6) z:=by
 apply List.ext_getElem?;intro j
 by_cases hj:j<n*6
 ·have h2:j % 6=0∨j % 6=1∨j % 6=2∨j % 6=3∨j % 6=4∨j % 6=5:=by omega
  rcases h2 with h2 | h2 | h2 | h2 | h2 | h2 <;> simp [madeCells,hj,h2]
 ·simp [madeCells,hj]
theorem ctriples_made {w:World} {g n:Nat} {lo:Nat} (h:w.ownsRow lo 82 6 (.slice (some ⟨g,0,none⟩) n n) n (List.replicate (n*6) (.slice none 0 0))):(Zs (List.replicate n noT)).own w [g] (.slice (some ⟨g,0,none⟩) n n):=by
 refine ⟨n,_,List.replicate (n*6) [], ?_,ZQ h (Nat.zero_le _), ?_, ?_,by simp⟩
 ·rw [flat_noT,List.length_replicate]
 ·rw [flat_noT];exact Vj w _
 ·rw [Ul];rfl
theorem ctriple_oform {w:World} {m:TrM} {F:List Nat} {v:Value} (h:AggO w (ctriple m) F v):∃(A0 A1 A2 A3 A4 A5:Option Addr) (n0 s0 n1 s1 n2 s2 n3 s3 n4 s4 n5 s5:Nat),v=.agg #[.slice A0 n0 s0,.slice A1 n1 s1,.slice A2 n2 s2,.slice A3 n3 s3,.slice A4 n4 s4,.slice A5 n5 s5]:=by
 obtain ⟨A,a,B,b,C,c,D,d,E,e,F,f,rfl,_⟩:=YD (AggO.rd h);exact ⟨_,_,_,_,_,_,_,_,_,_,_,_,_,_,_,_,_,_,rfl⟩
theorem trAt_at {xs:List TrM} {k:Nat} (h:k<xs.length):xs[k]?=some (trAt xs k):=by
 unfold trAt;rw [zF,List.getElem?_eq_getElem h];rfl
def trS (xs:List TrM) (k:Nat):Nat:=((xs.take k).map TrM.sz).sum
theorem trS_zero (xs:List TrM):trS xs 0=0:=by simp [trS]
theorem UE (xs:List TrM) (k:Nat) (x:TrM) (h:xs[k]?=some x):trS xs (k+1)=trS xs k+x.sz:=by
 obtain ⟨hk,rfl⟩:=List.getElem?_eq_some_iff.1 h;unfold trS;rw [List.take_succ_eq_append_getElem hk,List.map_append,List.sum_append];simp
theorem trS_mono (xs:List TrM) {j k:Nat} (h:j≤k):trS xs j≤trS xs k:=by
 induction k with
 | zero =>
  have:j=0:=by omega
  subst this;exact Nat.le_refl _
 | succ k ih =>
  by_cases e:j=k+1
  ·subst e;exact Nat.le_refl _
  ·have h1:=ih (by omega)
   cases hk:xs[k]? with
   | some x=>rw [UE xs k x hk];omega
   | none =>
    have hl:xs.length≤k:=by simpa using hk
    have:trS xs (k+1)=trS xs k:=by unfold trS;rw [List.take_of_length_le (by omega),List.take_of_length_le (by omega)]
    omega
def szT (xs:List TrM):Nat:=xs.length+trS xs xs.length
theorem len_trS (xs:List TrM) (x:TrM) (h:x∈xs):x.sz≤trS xs xs.length:=by
 obtain ⟨j,hj,rfl⟩:=List.getElem_of_mem h;have h1:=UE xs j _ (List.getElem?_eq_getElem hj);have h2:=trS_mono xs (show j+1≤xs.length by omega);omega
theorem XY {w:World} {xs:List TrM} {v:Value} (h:(Zs xs).rd w v):∃A c,v=.slice A xs.length c∧xs.length≤c∧c≤maxLen:=by
 obtain ⟨A,c,vs,h1,h2,h3,_⟩:=Qu (s:=6) (fun _=>rfl) (by omega) h;exact ⟨A,c,h1,h2,h3⟩
set_option maxHeartbeats 400000 in
theorem Qq (xss:List TrM) (v:Value) (l:Nat) (w:World) (h:(Zs xss).rd w v) (hl:l≤1048576) :
  Calls Tryz.prog 23 #[v,.int .i64 l] w fun e w'=>e=.returned (.int .i64 (szO l (szT xss)))∧w.grownBy w' none:=by
 obtain ⟨A,c,rfl,hc,hm⟩:=XY h;have HX:=zH h;unfold maxLen at hm;unfold szT;obtain ⟨n,hn⟩:∃n,xss.length=n:=⟨_,rfl⟩;rw [hn] at hc HX ⊢;have LX:=zH hn;clear h hn
 by_cases hbig:l<n
 ·have h':(l:Int) - (n:Int)<0:=by omega
  have HB:=zH hbig;clear hbig
  go_enter Tryz.func23,Tryz.ntmps23
  go_wp2_with fail;go_ret;have:=HB.out;exact ⟨retI (ZV (by omega)).symm,gbR _ _⟩
 ·have h':¬((l:Int) - (n:Int)<0):=by omega
  go_enter Tryz.func23,Tryz.ntmps23
  go_wp2_with fail
  go_loopw [1,5] (fun s i wr=>∃k q:Nat,k≤n∧i=.int .i64 k∧s=.int .i64 q∧q≤l∧Hid (q+n+trS xss k=l)∧Hid (w.grownBy wr none)) (fun _ i _=>n - (intOf i).toNat)
  case atStart=>exact ⟨0,l - n,Nat.zero_le _,rfl,by go_num,by omega,by unfold Hid;rw [trS_zero];omega,gbR _ _⟩
  case round =>
   obtain ⟨k,q,hk,rfl,rfl,hql,hq,hG⟩:=hrel
   by_cases hlt:k<n
   ·obtain ⟨b,o,X0,X1,X2,X3,X4,X5,x0,x1,x2,x3,x4,x5,rfl,_,q0,q1,q2,q3,q4,q5,qq⟩:=Yd (CS.grow _ HX.out hG.out) hlt
    have hx:xss[k]?=some (trAt xss k):=trAt_at (by rw [LX.out];exact hlt);have q_tr:=qq.tr;clear qq;generalize trAt xss k=x at *;have HS:=zH (UE xss k x hx);have HM:=zH (trS_mono xss (show k+1≤n by omega));have Q2:=zH q_tr;have i1:(k:Int)<(n:Int):=by omega
    clear hx q_tr;obtain ⟨rl,hrl⟩:∃r,x.sz=r:=⟨_,rfl⟩;have HRL:=zH hrl;rw [hrl] at HS;clear hrl
    by_cases hfit:rl≤q
    ·have HF:=zH (ZT hfit)
     go_wp2_with fail;refine (szTriple_k x _ q _ Q2.out (by omega)).mono ?_;rintro e w1 ⟨rfl,g⟩;rw [HRL.out,HF.out];have G1:=zH (gbT hG.out g);have h'':¬(((q - rl:Nat):Int)<0):=by omega
     clear g;go_wp2_with fail
     go_roundw
     case rel=>exact ⟨k+1,q - rl,by omega,by go_num,rfl,by omega,by have h1:=HS.out;have h2:=hq.out;unfold Hid;omega,G1.out⟩
     case measure=>simp [intOf];omega
    ·have HF:=zH (ZV (Nat.lt_of_not_le hfit))
     go_wp2_with fail;refine (szTriple_k x _ q _ Q2.out (by omega)).mono ?_;rintro e w1 ⟨rfl,g⟩;rw [HRL.out,HF.out];have G1:=zH (gbT hG.out g);clear g;go_wp2_with fail;go_ret;have h1:=HS.out;have h2:=hq.out;have h3:=HM.out;exact ⟨retI (ZV (by omega)).symm,G1.out⟩
   ·have hkn:k=n:=by omega
    subst hkn;go_wp2_with fail;go_ret;have h2:=hq.out;exact ⟨retI (by rw [ZT (by omega)];omega),hG.out⟩
set_option maxRecDepth 100000 in
set_option maxHeartbeats 800000 in
theorem eqTripleS_z (xss:List TrM) (v u:Value) (w:World) (h:(Zs xss).rd w v) (k:(Zs xss).rd w u) (hs:szT xss≤1048576) :
  Calls Tryz.prog 29 #[v,u] w fun e w'=>e=.returned (.bool true)∧w.grownBy w' none:=by
 obtain ⟨A,c,rfl,hc,hm⟩:=XY h;obtain ⟨B,d,rfl,hd,hm'⟩:=XY k;have HX:=zH h;have HY:=zH k;have HSM:Hid (∀x∈xss,x.sz≤1048576):=zH (fun x hx=>by have:=len_trS xss x hx;unfold szT at hs;omega);have hn:xss.length≤1048576:=by unfold szT at hs;omega
 obtain ⟨n,hnn⟩:∃n,xss.length=n:=⟨_,rfl⟩;rw [hnn] at hc hd hn HX HY ⊢;have LX:=zH hnn;clear h k hs hnn;have hd:((n:Int) != (n:Int))=false:=by simp
 go_enter Tryz.func29,Tryz.ntmps29
 go_wp2_with fail
 go_loopw [5] (fun i wr=>∃k:Nat,k≤n∧i=.int .i64 k∧Hid (w.grownBy wr none)) (fun i _=>n - (intOf i).toNat)
 case atStart=>exact ⟨0,Nat.zero_le _,rfl,gbR _ _⟩
 case round =>
  obtain ⟨k,hk,rfl,hg⟩:=hrel
  by_cases hlt:k<n
  ·obtain ⟨b,o,X0,X1,X2,X3,X4,X5,x0,x1,x2,x3,x4,x5,rfl,_,q0,q1,q2,q3,q4,q5,qq⟩:=Yd (CS.grow _ HX.out hg.out) hlt
   have q_tr:=qq.tr;clear qq;obtain ⟨b',o',Y0,Y1,Y2,Y3,Y4,Y5,y0,y1,y2,y3,y4,y5,rfl,_,r0,r1,r2,r3,r4,r5,qq⟩:=Yd (CS.grow _ HY.out hg.out) hlt;have r_tr:=qq.tr;clear qq;have hx:xss[k]?=some (trAt xss k):=trAt_at (by rw [LX.out];exact hlt);generalize trAt xss k=x at *;have HL:=zH (HSM.out x (List.mem_of_getElem? hx));have i1:(k:Int)<(n:Int):=by omega
   have QT:=zH q_tr;have RT:=zH r_tr;have Q0:=zH q0;have R0:=zH r0;have Q1:=zH q1;have R1:=zH r1;have Q2:=zH q2;have R2:=zH r2;have Q3:=zH q3;have R3:=zH r3;have Q4:=zH q4;have R4:=zH r4;have Q5:=zH q5;have R5:=zH r5;clear q_tr r_tr hx q0 r0 q1 r1 q2 r2 q3 r3 q4 r4 q5 r5;go_wp2_with fail;refine Zi [isV (.slice (some ⟨b,o,none⟩) n c),isV (.int .i64 k),isV (.pointer (some ⟨b,o+k*6,none⟩)),isV (.agg #[.slice X0 x.a.sh.length x0,.slice X1 x.a.mc.length x1,.slice X2 x.b.sh.length x2,.slice X3 x.b.mc.length x3,.slice X4 x.c.sh.length x4,.slice X5 x.c.mc.length x5]),isV (.slice (some ⟨b',o',none⟩) n d),isV (.int .i64 k),isV (.pointer (some ⟨b',o'+k*6,none⟩)),isV (.agg #[.slice Y0 x.a.sh.length y0,.slice Y1 x.a.mc.length y1,.slice Y2 x.b.sh.length y2,.slice Y3 x.b.mc.length y3,.slice Y4 x.c.sh.length y4,.slice Y5 x.c.mc.length y5]),isV (.bool true),isV (.bool false)] (by kernel_rfl) (by kernel_rfl) (by kernel_rfl) (by simp [ZB,Zb]) ?_ ?_
   ·simp only [hops,and_true]
    refine ⟨?_, ?_, ?_, ?_, ?_, ?_, ?_, ?_, ?_, ?_⟩
    all_goals
     intro f w1 hG hd;have k0:=gbk (gbT (gbD (gbR _ _)) hG) (Q0.out);have k1:=gbk (gbT (gbD (gbR _ _)) hG) (R0.out);have k2:=gbk (gbT (gbD (gbR _ _)) hG) (Q1.out);have k3:=gbk (gbT (gbD (gbR _ _)) hG) (R1.out);have k4:=gbk (gbT (gbD (gbR _ _)) hG) (Q2.out);have k5:=gbk (gbT (gbD (gbR _ _)) hG) (R2.out);have k6:=gbk (gbT (gbD (gbR _ _)) hG) (Q3.out);have k7:=gbk (gbT (gbD (gbR _ _)) hG) (R3.out);have k8:=gbk (gbT (gbD (gbR _ _)) hG) (Q4.out);have k9:=gbk (gbT (gbD (gbR _ _)) hG) (R4.out);have k10:=gbk (gbT (gbD (gbR _ _)) hG) (Q5.out);have k11:=gbk (gbT (gbD (gbR _ _)) hG) (R5.out);simp [deps,tAt,isV] at hd
     first | simp [puts,dsts,Act.put,hd] | simp [puts,dsts,Act.put]
     clear hd
     go_wp2_with (first | (go_at_call 75;refine (eqTriple_k x _ _ _ (AggR.grow QT.out (gbT (gbD (gbR _ none)) hG)) (AggR.grow RT.out (gbT (gbD (gbR _ none)) hG)) HL.out).mono ?_;rintro e w6 ⟨rfl,hw⟩))
    all_goals exact ⟨_,rfl,by first | with_reducible exact gbR _ _ | exact hw,by first | (simp [tAt,isV];done) | (simp [tAt,isV];assumption)⟩
   intro f w5 hG hd;simp [knows,tAt,isV] at hd;simp only [puts,dsts,Act.put,hd,zB,zC,zA,zD,zE];clear hd;have g5:=gbT (gbD (gbR _ none)) hG;clear hG;have G2:=zH (gbT hg.out g5);clear g5;go_wp2_with fail
   go_roundw
   case rel=>exact ⟨k+1,by omega,by go_num,G2.out⟩
   case measure=>simp [intOf];omega
  ·have hkn:k=n:=by omega
   subst hkn;go_wp2_with fail;go_ret;exact ⟨rfl,hg.out⟩
set_option maxHeartbeats 800000 in
theorem Wh (xss:List TrM) (v:Value) (w:World) (h:(Zs xss).rd w v) (hs:szT xss≤1048576) :
  Calls Tryz.prog 26 #[v] w fun e w'=>∃u F,e=.returned u∧(Zs xss).own w' F u∧(∀g∈F,w.heap.size≤g)∧w.grownBy w' none:=by
 obtain ⟨A,c,rfl,hc,hm⟩:=XY h;have HX:=zH h;have HSM:Hid (∀x∈xss,x.sz≤1048576):=zH (fun x hx=>by have:=len_trS xss x hx;unfold szT at hs;omega);have hn:xss.length≤1048576:=by unfold szT at hs;omega
 obtain ⟨n,hnn⟩:∃n,xss.length=n:=⟨_,rfl⟩;rw [hnn] at hc hn HX ⊢;have LX:=zH hnn;clear h hs hnn
 go_enter Tryz.func26,Tryz.ntmps26
 go_wp2_with (at_make;refine Uv _ elTriple rfl _ _ rfl n rfl rfl (by omega) (by unfold maxLen;omega) ?_;intro w1 hown1 hg1)
 rw [show (Value.agg #[.slice none 0 0,.slice none 0 0,.slice none 0 0,.slice none 0 0,.slice none 0 0,.slice none 0 0]).cells=#[.slice none 0 0,.slice none 0 0,.slice none 0 0,.slice none 0 0,.slice none 0 0,.slice none 0 0] from rfl,Qp] at hown1;have O1:=zH (ctriples_made hown1);have G1:=zH hg1;clear hown1 hg1
 go_loopw [4] (fun i wr=>∃k:Nat,k≤n∧i=.int .i64 k∧Hid (∃F,(Zs (xss.take k ++ List.replicate (n - k) noT)).own wr F (.slice (some ⟨w.heap.size,0,none⟩) n n)∧∀g∈F,w.heap.size≤g)∧Hid (w.grownBy wr none)) (fun i _=>n - (intOf i).toNat)
 case atStart=>exact ⟨0,Nat.zero_le _,rfl,⟨_,by simpa using O1.out,by simp⟩,G1.out⟩
 case round =>
  clear O1 G1;obtain ⟨k,hk,rfl,hown,hg⟩:=hrel
  by_cases hlt:k<n
  ·obtain ⟨b,o,X0,X1,X2,X3,X4,X5,x0,x1,x2,x3,x4,x5,rfl,_,q0,q1,q2,q3,q4,q5,qq⟩:=Yd (CS.grow _ HX.out hg.out) hlt
   have hx:xss[k]?=some (trAt xss k):=trAt_at (by rw [LX.out];exact hlt);have q_tr:=qq.tr;clear qq;generalize trAt xss k=x at *;have HL:=zH (HSM.out x (List.mem_of_getElem? hx));have Q2:=zH q_tr;have HXk:=zH hx;have i1:(k:Int)<(n:Int):=by omega
   clear q_tr hx;go_wp2_with fail;refine (toTriple_k x _ _ Q2.out HL.out).mono ?_;rintro e w2 ⟨u',F',rfl,o2,l2,g2⟩;obtain ⟨B0,B1,B2,B3,B4,B5,m0,d0,m1,d1,m2,d2,m3,d3,m4,d4,m5,d5,rfl⟩:=ctriple_oform o2;obtain ⟨F,hF,hFl⟩:=hown.out;have hF2:=Zj _ hF g2;have hlen:(xss.take k ++ List.replicate (n - k) noT).length=n:=by have:=LX.out;simp;omega
   obtain ⟨_,e0,f0⟩:=Xf hF2 (i:=k) (by rw [hlen];exact hlt) 0 (by omega);obtain ⟨_,e1,f1⟩:=Xf hF2 (i:=k) (by rw [hlen];exact hlt) 1 (by omega);obtain ⟨_,e2,f2⟩:=Xf hF2 (i:=k) (by rw [hlen];exact hlt) 2 (by omega);obtain ⟨_,e3,f3⟩:=Xf hF2 (i:=k) (by rw [hlen];exact hlt) 3 (by omega);obtain ⟨_,e4,f4⟩:=Xf hF2 (i:=k) (by rw [hlen];exact hlt) 4 (by omega);obtain ⟨_,e5,f5⟩:=Xf hF2 (i:=k) (by rw [hlen];exact hlt) 5 (by omega);simp only [Nat.add_zero] at e0 f0;obtain ⟨F2,k1,k2⟩:=ctriples_set hF2 (i:=k) (by rw [hlen];exact hlt) (us:=[(.slice B0 m0 d0),(.slice B1 m1 d1),(.slice B2 m2 d2),(.slice B3 m3 d3),(.slice B4 m4 d4),(.slice B5 m5 d5)]) o2 (fun y hy hy'=>by have h1:=l2 y hy;have h2:=CS.lt _ hF y hy';omega)
   have hset:(xss.take k ++ List.replicate (n - k) noT).set k x=xss.take (k+1) ++ List.replicate (n - (k+1)) noT:=by
    have hl:=LX.out;have hkl:k<xss.length:=by omega
    have hxk:xss[k]=x:=by have:=HXk.out;rw [List.getElem?_eq_getElem hkl] at this;injection this
    rw [← hl,← hxk,VI noT xss k hkl]
   rw [hset] at k1
   have K1:Hid (∃F,(Zs (xss.take (k+1) ++ List.replicate (n - (k+1)) noT)).own (((((((w2).setCell ⟨w.heap.size,k*6,none⟩ (.slice B0 m0 d0)).setCell ⟨w.heap.size,k*6+1,none⟩ (.slice B1 m1 d1)).setCell ⟨w.heap.size,k*6+2,none⟩ (.slice B2 m2 d2)).setCell ⟨w.heap.size,k*6+3,none⟩ (.slice B3 m3 d3)).setCell ⟨w.heap.size,k*6+4,none⟩ (.slice B4 m4 d4)).setCell ⟨w.heap.size,k*6+5,none⟩ (.slice B5 m5 d5)) F (.slice (some ⟨w.heap.size,0,none⟩) n n)∧∀g∈F,w.heap.size≤g):=⟨F2,k1,fun g hg'=>by
    rcases k2 g hg' with h3 | h3
    ·exact hFl g h3
    ·have:=l2 g h3;have:=hg.out.size;omega⟩
   have G2:=zH (gbS (gbS (gbS (gbS (gbS (gbS (gbT hg.out g2) (p:=⟨w.heap.size,k*6,none⟩) (Nat.le_refl _) (.slice B0 m0 d0)) (p:=⟨w.heap.size,k*6+1,none⟩) (Nat.le_refl _) (.slice B1 m1 d1)) (p:=⟨w.heap.size,k*6+2,none⟩) (Nat.le_refl _) (.slice B2 m2 d2)) (p:=⟨w.heap.size,k*6+3,none⟩) (Nat.le_refl _) (.slice B3 m3 d3)) (p:=⟨w.heap.size,k*6+4,none⟩) (Nat.le_refl _) (.slice B4 m4 d4)) (p:=⟨w.heap.size,k*6+5,none⟩) (Nat.le_refl _) (.slice B5 m5 d5));clear hF hF2 hFl hset k1 k2 o2 l2 g2 hown hlen;go_wp2_with fail
   go_roundw
   case rel=>exact ⟨k+1,by omega,by go_num,K1.out,G2.out⟩
   case measure=>simp [intOf];omega
  ·have hkn:k=n:=by omega
   subst hkn;go_wp2_with fail;go_ret;obtain ⟨F,hF,hFl⟩:=hown.out;have hl:=LX.out;rw [Nat.sub_self,List.replicate_zero,List.append_nil,List.take_of_length_le (by omega)] at hF;exact ⟨_,F,rfl,hF,hFl,hg.out⟩
end Go.Proofs.YthaadgdeadbhkaaGreat
