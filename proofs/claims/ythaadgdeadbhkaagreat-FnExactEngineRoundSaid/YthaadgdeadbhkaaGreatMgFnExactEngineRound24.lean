/-
 The values that EngineNew fills in,place by place;a new list of Auths.
-/
import Derived.Test.YthaadgdeadbhkaaGreatMgFnExactEngineRound23
open Go.RowKit
set_option linter.unusedVariables false
set_option linter.unusedSimpArgs false
namespace Go.Proofs.YthaadgdeadbhkaaGreat
theorem Ql (z:Value) (n:Nat):(madeCells #[z,z] (n*2)).toList=List.replicate (n*2) z:=by
 apply List.ext_getElem?;intro j
 by_cases hj:j<n*2
 ·have h2:j % 2=0∨j % 2=1:=by omega
  rcases h2 with h2 | h2 <;> simp [madeCells,hj,h2]
 ·simp [madeCells,hj]
theorem flat_noA (n:Nat):(List.replicate n noA).flatMap cauth=List.replicate (n*2) (cints []):=by
 induction n with
 | zero=>rfl
 | succ n ih =>
  rw [List.replicate_succ,List.flatMap_cons,ih,show (n+1)*2=n*2+1+1 by omega,List.replicate_succ,List.replicate_succ];rfl
theorem cints_nil (w:World):(cints []).own w [] (.slice none 0 0):=Yi (World.ownsRow_nil w 0 _ 1)
theorem Vj (w:World):∀n:Nat,OwnAll w (List.replicate n (cints [])) (List.replicate n (.slice none 0 0)) (List.replicate n [])
 | 0=>OwnAll.nil w
 | n+1=>by
  rw [List.replicate_succ,List.replicate_succ,List.replicate_succ];exact OwnAll.cons (cints_nil w) (Vj w n) (by simp)
theorem Ul {α:Type} (n:Nat):(List.replicate n ([]:List α)).flatten=[]:=by
 induction n with
 | zero=>rfl
 | succ n ih=>rw [List.replicate_succ,List.flatten_cons,ih];rfl
theorem cauths_made {w:World} {g n:Nat} {lo:Nat} (h:w.ownsRow lo 80 2 (.slice (some ⟨g,0,none⟩) n n) n (List.replicate (n*2) (.slice none 0 0))):(cauths (List.replicate n noA)).own w [g] (.slice (some ⟨g,0,none⟩) n n):=by
 refine ⟨n,_,List.replicate (n*2) [], ?_,ZQ h (Nat.zero_le _), ?_, ?_,by simp⟩
 ·rw [flat_noA,List.length_replicate]
 ·rw [flat_noA];exact Vj w _
 ·rw [Ul];rfl
def valF (lo n:Nat) (v:Value) (w:World):Prop:=∃g,v=.slice (some ⟨g,0,none⟩) n n∧lo≤g∧(cauths (List.replicate n noA)).own w [g] v
def engN (k:KM) (c:AM) (n:Nat):EM:=⟨k,c,List.replicate n noA,[],0,false⟩
def engZ (lo:Nat) (m:EM) (u:Value) (w:World):Prop:=∃A n c B q d C r e D o i,u=.agg #[.int .i64 m.k.p,.slice A n c,.int .i64 m.c.p,.slice B q d,.slice C r e,.slice D o i,.slice none 0 0,.int .i64 m.rd,.bool m.bad]∧aggF lo (Zd m) (.agg #[.int .i64 m.k.p,.slice A n c,.int .i64 m.c.p,.slice B q d,.slice C r e,.slice D o i,.slice none 0 0,.int .i64 m.rd,.bool m.bad]) w
theorem engZ.grow {lo:Nat} {m:EM} {u:Value} {w w':World} (h:engZ lo m u w) (hg:w.grownBy w' none):engZ lo m u w':=by
 obtain ⟨A,n,c,B,q,d,C,r,e,E,o,i,e1,h1⟩:=h;exact ⟨A,n,c,B,q,d,C,r,e,E,o,i,e1,h1.grow hg⟩
theorem ka_ty (k:KM) (m:AM):∀c∈ckeys k ++ carith m,tyd [3,102] c:=by
 intro c hc;simp only [List.mem_cons,List.mem_append,List.not_mem_nil,or_false] at hc
 rcases hc with (rfl | rfl) | rfl | rfl | rfl
 ·exact Qe
 ·exact Yv (by simp)
 ·exact Qe
 ·exact Yv (by simp)
 ·exact Yv (by simp)
theorem engZ.of {lo n:Nat} {k:KM} {c:AM} {u v x:Value} {w:World} (h:keyArL lo k c u v w) (hv:valF lo n x w):∃A n1 c1 B q d C r e g,u=.agg #[.int .i64 k.p,.slice A n1 c1]∧v=.agg #[.int .i64 c.p,.slice B q d,.slice C r e]∧x=.slice (some ⟨g,0,none⟩) n n∧engZ lo (engN k c n) (.agg #[.int .i64 k.p,.slice A n1 c1,.int .i64 c.p,.slice B q d,.slice C r e,.slice (some ⟨g,0,none⟩) n n,.slice none 0 0,.int .i64 0,.bool false]) w:=by
 obtain ⟨A,n1,c1,B,q,d,C,r,e,rfl,rfl,Fs,h1,h2⟩:=h;obtain ⟨g,rfl,hg,hv⟩:=hv
 have hgT:∃cur z,w.heap[g]?=some (.cells cur 80 z):=by
  obtain ⟨n',vs,Gs,a1,a2,a3,a4,a5⟩:=hv
  rcases a2.2 with ⟨e,_⟩ | ⟨g',cap,cur,e,_,e1,_⟩
  ·cases e
  ·injection e with e
   injection e with e;injection e with e;subst e;exact ⟨_,_,e1⟩
 have hdis:g∉Fs.flatten:=by
  intro hx;obtain ⟨cur,T,z,e1,e2⟩:=Qf h1 (ka_ty k c) g hx;obtain ⟨cur',z',e3⟩:=hgT;rw [e3] at e1;injection e1 with e1;injection e1 with _ e1 _;rw [← e1] at e2
  revert e2
  decide
 have hz:OwnAll w [ci 0,cb false] [.int .i64 0,.bool false] [[],[]]:=OwnAll.cons (WW w 0) (OwnAll.cons (cb_own w false) (OwnAll.nil _) (by simp)) (by simp);have h5:OwnAll w [cauths (List.replicate n noA),cints [],ci 0,cb false] [.slice (some ⟨g,0,none⟩) n n,.slice none 0 0,.int .i64 0,.bool false] [[g],[],[],[]]:=OwnAll.cons hv (OwnAll.cons (cints_nil w) hz (by simp)) (by simp)
 have h6:=h1.append h5 (fun y hy hy'=>by
  simp at hy';subst hy'
  exact hdis hy)
 refine ⟨A,n1,c1,B,q,d,C,r,e,g,rfl,rfl,rfl,A,n1,c1,B,q,d,C,r,e,_,_,_,rfl,_,⟨_,_,rfl,h6,rfl⟩,fun y hy => ?_⟩;rw [List.flatten_append] at hy
 rcases List.mem_append.1 hy with hy | hy
 ·exact h2 y hy
 ·simp at hy
  omega
def auS (xs:List AuM) (k:Nat):Nat:=((xs.take k).map AuM.sz).sum
theorem UC (xs:List AuM):auS xs 0=0:=by simp [auS]
theorem WQ (xs:List AuM) (k:Nat) (x:AuM) (h:xs[k]?=some x):auS xs (k+1)=auS xs k+x.sz:=by
 obtain ⟨hk,rfl⟩:=List.getElem?_eq_some_iff.1 h;unfold auS;rw [List.take_succ_eq_append_getElem hk,List.map_append,List.sum_append];simp
theorem UD (xs:List AuM) {j k:Nat} (h:j≤k):auS xs j≤auS xs k:=by
 induction k with
 | zero =>
  have:j=0:=by omega
  subst this;exact Nat.le_refl _
 | succ k ih =>
  by_cases e:j=k+1
  ·subst e;exact Nat.le_refl _
  ·have h1:=ih (by omega)
   cases hk:xs[k]? with
   | some x=>rw [WQ xs k x hk];omega
   | none =>
    have hl:xs.length≤k:=by simpa using hk
    have:auS xs (k+1)=auS xs k:=by unfold auS;rw [List.take_of_length_le (by omega),List.take_of_length_le (by omega)]
    omega
def szA (xs:List AuM):Nat:=xs.length+auS xs xs.length
theorem len_auS (xs:List AuM) (x:AuM) (h:x∈xs):x.sz≤auS xs xs.length:=by
 obtain ⟨j,hj,rfl⟩:=List.getElem_of_mem h;have h1:=WQ xs j _ (List.getElem?_eq_getElem hj);have h2:=UD xs (show j+1≤xs.length by omega);omega
theorem Qx {w:World} {xs:List AuM} {v:Value} (h:(cauths xs).rd w v):∃A c,v=.slice A xs.length c∧xs.length≤c∧c≤maxLen:=by
 obtain ⟨A,c,vs,h1,h2,h3,_⟩:=Qu (s:=2) (fun _=>rfl) (by omega) h;exact ⟨A,c,h1,h2,h3⟩
theorem auth_set2 (xs:List AuM) (i:Nat) (x:AuM) (hi:i<xs.length):((xs.flatMap cauth).set (i*2) (cints x.sh)).set (i*2+1) (cints x.mc)=(xs.set i x).flatMap cauth:=by
 have hlen:(xs.flatMap cauth).length=xs.length*2:=ZI (sz:=2) (fun _=>rfl) xs;apply List.ext_getElem?;intro j;rw [List.getElem?_set,List.getElem?_set,List.length_set,hlen,Yx (sz:=2) (fun _=>rfl) (by omega) xs,Yx (sz:=2) (fun _=>rfl) (by omega) (xs.set i x)];rw [List.getElem?_set];have hm:j % 2<2:=Nat.mod_lt _ (by omega)
 by_cases e:i=j / 2
 ·subst e
  rw [if_pos rfl,if_pos hi]
  rcases Nat.lt_or_ge (j % 2) 1 with h6 | h6
  ·have h7:j % 2=0:=by omega
   rw [if_neg (by omega),if_pos (by omega),if_pos (by omega),h7];rfl
  ·have h7:j % 2=1:=by omega
   rw [if_pos (by omega),if_pos (by omega),h7];rfl
 ·rw [if_neg e,if_neg (by omega),if_neg (by omega)]
set_option maxHeartbeats 400000 in
theorem Qm (xss:List AuM) (v:Value) (l:Nat) (w:World) (h:(cauths xss).rd w v) (hl:l≤1048576) :
  Calls Tryz.prog 59 #[v,.int .i64 l] w fun e w'=>e=.returned (.int .i64 (szO l (szA xss)))∧w.grownBy w' none:=by
 obtain ⟨A,c,rfl,hc,hm⟩:=Qx h;have HX:=zH h;unfold maxLen at hm;unfold szA;obtain ⟨n,hn⟩:∃n,xss.length=n:=⟨_,rfl⟩;rw [hn] at hc HX ⊢;have LX:=zH hn;clear h hn
 by_cases hbig:l<n
 ·have h':(l:Int) - (n:Int)<0:=by omega
  have HB:=zH hbig;clear hbig
  go_enter Tryz.func59,Tryz.ntmps59
  go_wp2_with fail;go_ret;have:=HB.out;exact ⟨retI (ZV (by omega)).symm,gbR _ _⟩
 ·have h':¬((l:Int) - (n:Int)<0):=by omega
  go_enter Tryz.func59,Tryz.ntmps59
  go_wp2_with fail
  go_loopw [1,5] (fun s i wr=>∃k q:Nat,k≤n∧i=.int .i64 k∧s=.int .i64 q∧q≤l∧Hid (q+n+auS xss k=l)∧Hid (w.grownBy wr none)) (fun _ i _=>n - (intOf i).toNat)
  case atStart=>exact ⟨0,l - n,Nat.zero_le _,rfl,by go_num,by omega,by unfold Hid;rw [UC];omega,gbR _ _⟩
  case round =>
   obtain ⟨k,q,hk,rfl,rfl,hql,hq,hG⟩:=hrel
   by_cases hlt:k<n
   ·obtain ⟨b,o,x,B,d,C,f,rfl,hb,hx,q0,q1,q2⟩:=ZL (CS.grow _ HX.out hG.out) hlt
    have HS:=zH (WQ xss k x hx);have HM:=zH (UD xss (show k+1≤n by omega));have Q2:=zH q2;have i1:(k:Int)<(n:Int):=by omega
    clear hx q2;obtain ⟨rl,hrl⟩:∃r,x.sz=r:=⟨_,rfl⟩;have HRL:=zH hrl;rw [hrl] at HS;clear hrl
    by_cases hfit:rl≤q
    ·have HF:=zH (ZT hfit)
     go_wp2_with fail;refine (YU x _ q _ Q2.out (by omega)).mono ?_;rintro e w1 ⟨rfl,g⟩;rw [HRL.out,HF.out];have G1:=zH (gbT hG.out g);have h'':¬(((q - rl:Nat):Int)<0):=by omega
     clear g;go_wp2_with fail
     go_roundw
     case rel=>exact ⟨k+1,q - rl,by omega,by go_num,rfl,by omega,by have h1:=HS.out;have h2:=hq.out;unfold Hid;omega,G1.out⟩
     case measure=>simp [intOf];omega
    ·have HF:=zH (ZV (Nat.lt_of_not_le hfit))
     go_wp2_with fail;refine (YU x _ q _ Q2.out (by omega)).mono ?_;rintro e w1 ⟨rfl,g⟩;rw [HRL.out,HF.out];have G1:=zH (gbT hG.out g);clear g;go_wp2_with fail;go_ret;have h1:=HS.out;have h2:=hq.out;have h3:=HM.out;exact ⟨retI (ZV (by omega)).symm,G1.out⟩
   ·have hkn:k=n:=by omega
    subst hkn;go_wp2_with fail;go_ret;have h2:=hq.out;exact ⟨retI (by rw [ZT (by omega)];omega),hG.out⟩
set_option maxRecDepth 100000 in
set_option maxHeartbeats 800000 in
theorem eqAuthS_z (xss:List AuM) (v u:Value) (w:World) (h:(cauths xss).rd w v) (k:(cauths xss).rd w u) (hs:szA xss≤1048576) :
  Calls Tryz.prog 74 #[v,u] w fun e w'=>e=.returned (.bool true)∧w.grownBy w' none:=by
 obtain ⟨A,c,rfl,hc,hm⟩:=Qx h;obtain ⟨B,d,rfl,hd,hm'⟩:=Qx k;have HX:=zH h;have HY:=zH k;have HSM:Hid (∀x∈xss,x.sz≤1048576):=zH (fun x hx=>by have:=len_auS xss x hx;unfold szA at hs;omega);have hn:xss.length≤1048576:=by unfold szA at hs;omega
 obtain ⟨n,hnn⟩:∃n,xss.length=n:=⟨_,rfl⟩;rw [hnn] at hc hd hn HX HY ⊢;clear h k hs hnn;have hd:((n:Int) != (n:Int))=false:=by simp
 go_enter Tryz.func74,Tryz.ntmps74
 go_wp2_with fail
 go_loopw [5] (fun i wr=>∃k:Nat,k≤n∧i=.int .i64 k∧Hid (w.grownBy wr none)) (fun i _=>n - (intOf i).toNat)
 case atStart=>exact ⟨0,Nat.zero_le _,rfl,gbR _ _⟩
 case round =>
  obtain ⟨k,hk,rfl,hg⟩:=hrel
  by_cases hlt:k<n
  ·obtain ⟨b,o,x,X0,x0,X1,x1,rfl,hb,hx,q0,q1,q2⟩:=ZL (CS.grow _ HX.out hg.out) hlt
   obtain ⟨b',o',x',Y0,y0,Y1,y1,rfl,hb',hx',r0,r1,r2⟩:=ZL (CS.grow _ HY.out hg.out) hlt;obtain rfl:x=x':=by rw [hx] at hx';injection hx'
   have HL:=zH (HSM.out x (List.mem_of_getElem? hx));have i1:(k:Int)<(n:Int):=by omega
   have Q2:=zH q2;have R2:=zH r2;have Q0:=zH q0;have Q1:=zH q1;have R0:=zH r0;have R1:=zH r1;clear q2 r2 hx hx' q0 q1 r0 r1;go_wp2_with fail;refine Zi [isV (.slice (some ⟨b,o,none⟩) n c),isV (.int .i64 k),isV (.pointer (some ⟨b,o+k*2,none⟩)),isV (.agg #[.slice X0 x.sh.length x0,.slice X1 x.mc.length x1]),isV (.slice (some ⟨b',o',none⟩) n d),isV (.int .i64 k),isV (.pointer (some ⟨b',o'+k*2,none⟩)),isV (.agg #[.slice Y0 x.sh.length y0,.slice Y1 x.mc.length y1]),isV (.bool true),isV (.bool false)] (by kernel_rfl) (by kernel_rfl) (by kernel_rfl) (by simp [ZB,Zb]) ?_ ?_
   ·simp only [hops,and_true]
    refine ⟨?_, ?_, ?_, ?_, ?_, ?_, ?_, ?_, ?_, ?_⟩
    all_goals
     intro f w1 hG hd;have k0:=gbk (gbT (gbD (gbR _ _)) hG) (Q0.out);have k1:=gbk (gbT (gbD (gbR _ _)) hG) (Q1.out);have k2:=gbk (gbT (gbD (gbR _ _)) hG) (R0.out);have k3:=gbk (gbT (gbD (gbR _ _)) hG) (R1.out);simp [deps,tAt,isV] at hd
     first | simp [puts,dsts,Act.put,hd] | simp [puts,dsts,Act.put]
     clear hd
     go_wp2_with (first | (go_at_call 138;refine (Uy x _ _ _ (AggR.grow Q2.out (gbT (gbD (gbR _ none)) hG)) (AggR.grow R2.out (gbT (gbD (gbR _ none)) hG)) HL.out).mono ?_;rintro e w6 ⟨rfl,hw⟩))
    all_goals exact ⟨_,rfl,by first | with_reducible exact gbR _ _ | exact hw,by first | (simp [tAt,isV];done) | (simp [tAt,isV];assumption)⟩
   intro f w5 hG hd;simp [knows,tAt,isV] at hd;simp only [puts,dsts,Act.put,hd,zB,zC,zA,zD,zE];clear hd;have g5:=gbT (gbD (gbR _ none)) hG;clear hG;have G2:=zH (gbT hg.out g5);clear g5;go_wp2_with fail
   go_roundw
   case rel=>exact ⟨k+1,by omega,by go_num,G2.out⟩
   case measure=>simp [intOf];omega
  ·have hkn:k=n:=by omega
   subst hkn;go_wp2_with fail;go_ret;exact ⟨rfl,hg.out⟩
set_option maxHeartbeats 800000 in
theorem toAuthS_z (xss:List AuM) (v:Value) (w:World) (h:(cauths xss).rd w v) (hs:szA xss≤1048576) :
  Calls Tryz.prog 63 #[v] w fun e w'=>∃u F,e=.returned u∧(cauths xss).own w' F u∧(∀g∈F,w.heap.size≤g)∧w.grownBy w' none:=by
 obtain ⟨A,c,rfl,hc,hm⟩:=Qx h;have HX:=zH h;have HSM:Hid (∀x∈xss,x.sz≤1048576):=zH (fun x hx=>by have:=len_auS xss x hx;unfold szA at hs;omega);have hn:xss.length≤1048576:=by unfold szA at hs;omega
 obtain ⟨n,hnn⟩:∃n,xss.length=n:=⟨_,rfl⟩;rw [hnn] at hc hn HX ⊢;have LX:=zH hnn;clear h hs hnn
 go_enter Tryz.func63,Tryz.ntmps63
 go_wp2_with (at_make;refine Uv _ elAuth rfl _ _ rfl n rfl rfl (by omega) (by unfold maxLen;omega) ?_;intro w1 hown1 hg1)
 rw [show (Value.agg #[.slice none 0 0,.slice none 0 0]).cells=#[.slice none 0 0,.slice none 0 0] from rfl,Ql] at hown1;have O1:=zH (cauths_made hown1);have G1:=zH hg1;clear hown1 hg1
 go_loopw [4] (fun i wr=>∃k:Nat,k≤n∧i=.int .i64 k∧Hid (∃F,(cauths (xss.take k ++ List.replicate (n - k) noA)).own wr F (.slice (some ⟨w.heap.size,0,none⟩) n n)∧∀g∈F,w.heap.size≤g)∧Hid (w.grownBy wr none)) (fun i _=>n - (intOf i).toNat)
 case atStart=>exact ⟨0,Nat.zero_le _,rfl,⟨_,by simpa using O1.out,by simp⟩,G1.out⟩
 case round =>
  clear O1 G1;obtain ⟨k,hk,rfl,hown,hg⟩:=hrel
  by_cases hlt:k<n
  ·obtain ⟨b,o,x,X0,x0,X1,x1,rfl,hb,hx,q0,q1,q2⟩:=ZL (CS.grow _ HX.out hg.out) hlt
   have HL:=zH (HSM.out x (List.mem_of_getElem? hx));have Q2:=zH q2;have HXk:=zH hx;have i1:(k:Int)<(n:Int):=by omega
   clear q2 hx;go_wp2_with fail;refine (Ux x _ _ Q2.out HL.out).mono ?_;rintro e w2 ⟨u',F',rfl,o2,l2,g2⟩;obtain ⟨B,m,d,B',m',d',rfl⟩:=XB o2;obtain ⟨F,hF,hFl⟩:=hown.out;have hF2:=Zj _ hF g2;have hlen:(xss.take k ++ List.replicate (n - k) noA).length=n:=by have:=LX.out;simp;omega
   obtain ⟨_,_,_,_,e1,e2,e3,e4,_⟩:=YB hF2 (i:=k) (by rw [hlen];exact hlt);obtain ⟨F2,k1,k2⟩:=XU hF2 (i:=k) (by rw [hlen];exact hlt) o2 (fun y hy hy'=>by have h1:=l2 y hy;have h2:=CS.lt _ hF y hy';omega)
   have hset:(xss.take k ++ List.replicate (n - k) noA).set k x=xss.take (k+1) ++ List.replicate (n - (k+1)) noA:=by
    have hl:=LX.out;have hkl:k<xss.length:=by omega
    have hxk:xss[k]=x:=by have:=HXk.out;rw [List.getElem?_eq_getElem hkl] at this;injection this
    rw [← hl,← hxk,VI noA xss k hkl]
   rw [hset] at k1
   have K1:Hid (∃F,(cauths (xss.take (k+1) ++ List.replicate (n - (k+1)) noA)).own ((w2.setCell ⟨w.heap.size,k*2,none⟩ (.slice B m d)).setCell ⟨w.heap.size,k*2+1,none⟩ (.slice B' m' d')) F (.slice (some ⟨w.heap.size,0,none⟩) n n)∧∀g∈F,w.heap.size≤g):=⟨F2,k1,fun g hg'=>by
    rcases k2 g hg' with h3 | h3
    ·exact hFl g h3
    ·have:=l2 g h3;have:=hg.out.size;omega⟩
   have G2:=zH (gbS (gbS (gbT hg.out g2) (p:=⟨w.heap.size,k*2,none⟩) (Nat.le_refl _) (.slice B m d)) (p:=⟨w.heap.size,k*2+1,none⟩) (Nat.le_refl _) (.slice B' m' d'));clear hF hF2 hFl hset k1 k2 o2 l2 g2 hown hlen;go_wp2_with fail
   go_roundw
   case rel=>exact ⟨k+1,by omega,by go_num,K1.out,G2.out⟩
   case measure=>simp [intOf];omega
  ·have hkn:k=n:=by omega
   subst hkn;go_wp2_with fail;go_ret;obtain ⟨F,hF,hFl⟩:=hown.out;have hl:=LX.out;rw [Nat.sub_self,List.replicate_zero,List.append_nil,List.take_of_length_le (by omega)] at hF;exact ⟨_,F,rfl,hF,hFl,hg.out⟩
def mkAS (k:Int):List AuM→List AuM
 | []=>[]
 | x :: xs=>x.mkd k :: mkAS (k+(x.sz:Nat)) xs
theorem Vz (xss:List AuM):∀k,(mkAS k xss).length=xss.length:=by
 induction xss with
 | nil=>intro k;rfl
 | cons x xs ih=>intro k;rw [mkAS,List.length_cons,ih,List.length_cons]
theorem mkAS_get (xss:List AuM):∀(k:Int) (j:Nat),(mkAS k xss)[j]?=xss[j]?.map fun x=>x.mkd (k+(auS xss j:Nat)):=by
 induction xss with
 | nil=>intro k j;simp [mkAS]
 | cons x xs ih =>
  intro k j
  cases j with
  | zero=>simp [mkAS,auS]
  | succ j =>
   rw [mkAS,List.getElem?_cons_succ,ih,List.getElem?_cons_succ];have:auS (x :: xs) (j+1)=x.sz+auS xs j:=by simp [auS]
   rw [this]
   cases xs[j]? with
   | none=>rfl
   | some y=>simp only [Option.map_some];congr 2;omega
theorem mkAS_step (xss:List AuM) (k:Int) (j:Nat) (x:AuM) (h:xss[j]?=some x):((mkAS k xss).take j ++ xss.drop j).set j (x.mkd (k+(auS xss j:Nat)))=(mkAS k xss).take (j+1) ++ xss.drop (j+1):=by
 obtain ⟨hj,rfl⟩:=List.getElem?_eq_some_iff.1 h;have hl:=Vz xss k;have hg:=mkAS_get xss k j;rw [h] at hg;rw [List.set_append_right _ _ (by simp;omega),List.length_take,Nat.min_eq_left (by omega),Nat.sub_self,List.drop_eq_getElem_cons hj,zD];have hj':j<(mkAS k xss).length:=by omega
 rw [List.take_succ_eq_append_getElem hj',List.append_assoc]
 have:(mkAS k xss)[j]=(xss[j]).mkd (k+(auS xss j:Nat)):=by
  rw [List.getElem?_eq_getElem hj'] at hg;simpa using hg
 rw [this];rfl
set_option maxHeartbeats 1600000 in
theorem Qn (xss:List AuM) (v:Value) (F:List Nat) (k0:Int) (w:World) (h:(cauths xss).own w F v) (hn:szA xss≤1048576) (h0:0≤k0) (h1:k0≤274877906944) :
  Calls Tryz.prog 76 #[v,.int .i64 k0] w fun e w'=>e=.returned (.int .i64 (k0+(auS xss xss.length:Nat)))∧(cauths (mkAS k0 xss)).own w' F v∧Chg (fun g=>g∈F) w w':=by
 obtain ⟨A,c,rfl,hc,hm⟩:=Qx (CS.toRd _ h);have HX:=zH h;unfold szA at hn;obtain ⟨n,hnn⟩:∃n,xss.length=n:=⟨_,rfl⟩;rw [hnn] at hc hn HX ⊢;have LX:=zH hnn;unfold maxLen at hm;clear h hnn
 go_enter Tryz.func76,Tryz.ntmps76
 go_wp2_with fail
 go_loopw [1,5] (fun s i wr=>∃j:Nat,j≤n∧i=.int .i64 j∧s=.int .i64 (k0+(auS xss j:Nat))∧Hid ((cauths ((mkAS k0 xss).take j ++ xss.drop j)).own wr F (.slice A n c))∧Hid (Chg (fun g=>g∈F) w wr)) (fun _ i _=>n - (intOf i).toNat)
 case atStart=>exact ⟨0,Nat.zero_le _,rfl,by rw [UC];go_num,by simpa [Hid] using HX.out,Chg.refl _ _⟩
 case round =>
  obtain ⟨j,hj,rfl,rfl,hown,hch⟩:=hrel
  by_cases hlt:j<n
  ·have hF:=hown.out
   have hjx:j<xss.length:=by have:=LX.out;omega
   have hx:xss[j]?=some xss[j]:=List.getElem?_eq_getElem hjx;have HS:=zH (WQ xss j _ hx);have HM:=zH (UD xss (show j+1≤n by omega));have hst:=mkAS_step xss k0 j _ hx;generalize xss[j]=x at *;have hll:((mkAS k0 xss).take j ++ xss.drop j).length=n:=by rw [List.length_append,List.length_take,Vz,List.length_drop];have:=LX.out;omega
   have hlist:((mkAS k0 xss).take j ++ xss.drop j)[j]?=some x:=by
    rw [List.getElem?_append_right (by simp;omega),List.length_take,Vz,Nat.min_eq_left (by omega),Nat.sub_self,List.getElem?_drop]
    simpa using hx
   obtain ⟨g,rfl,hgF⟩:=XX hF (by rw [hll];omega)
   have hd0:(((mkAS k0 xss).take j ++ xss.drop j).flatMap cauth)[j*2]?=some (cints x.sh):=by
    have:=YL (sz:=2) (F:=cauth) (fun _=>rfl) ((mkAS k0 xss).take j ++ xss.drop j) j 0 (by omega);rw [hlist] at this;exact this
   have hd1:(((mkAS k0 xss).take j ++ xss.drop j).flatMap cauth)[j*2+1]?=some (cints x.mc):=by
    have:=YL (sz:=2) (F:=cauth) (fun _=>rfl) ((mkAS k0 xss).take j ++ xss.drop j) j 1 (by omega);rw [hlist] at this;exact this
   obtain ⟨u0,F0,q0,ho0,hsub0,hnext0⟩:=YC hF hd0;obtain ⟨u1,F1,q1,_,_,_⟩:=YC hF hd1;have i1:(j:Int)<(n:Int):=by omega
   have hsz:x.sz=x.sh.length+x.mc.length:=rfl
   have hb1:auS xss j+x.sz≤1048576:=by
    have h1:=HS.out;have h2:=HM.out;omega
   have HO:=zH ho0;have HNX:=zH hnext0;have HSUB:=zH hsub0;have HST:=zH hst;have HD1:=zH hd1;have HLL:=zH hll;clear hx hst hlist hd0 hd1 ho0 hnext0 hsub0 hown hF hll q1;go_wp2_with fail;refine (Yh x.sh u0 F0 (k0+(auS xss j:Nat)) _ HO.out (by omega) (by omega) (by omega)).mono ?_;rintro e w2 ⟨rfl,o2,c2⟩;have k1:=HNX.out w2 _ c2 o2
   have hd1':((((mkAS k0 xss).take j ++ xss.drop j).flatMap cauth).set (j*2) (cints (marks (k0+(auS xss j:Nat)) x.sh.length)))[j*2+1]?=some (cints x.mc):=by
    rw [List.getElem?_set_ne (by omega)];exact HD1.out
   obtain ⟨u1',F1',q1,ho1,hsub1,hnext1⟩:=YC k1 hd1';have C2:=zH (hch.out.trans (c2.mono fun y hy=>HSUB.out y hy));have HO1:=zH ho1;have HNX1:=zH hnext1;have HSUB1:=zH hsub1;clear o2 c2 k1 hch ho1 hnext1 hsub1 hd1';go_wp2_with fail;refine (Yh x.mc u1' F1' (k0+(auS xss j:Nat)+x.sh.length) _ HO1.out (by omega) (by omega) (by omega)).mono ?_;rintro e w3 ⟨rfl,o3,c3⟩;have k2:=HNX1.out w3 _ c3 o3
   have K1:Hid ((cauths ((mkAS k0 xss).take (j+1) ++ xss.drop (j+1))).own w3 F (.slice (some ⟨g,0,none⟩) n c)):=by
    have h9:=auth_set2 ((mkAS k0 xss).take j ++ xss.drop j) j (x.mkd (k0+(auS xss j:Nat))) (by rw [HLL.out];exact hlt);rw [HST.out] at h9;unfold AuM.mkd at h9;simp only at h9;rw [h9] at k2;exact k2
   have C3:=zH (C2.out.trans (c3.mono fun y hy=>HSUB1.out y hy));clear o3 c3 k2 C2;go_wp2_with fail
   go_roundw
   case rel=>exact ⟨j+1,by omega,by go_num,by rw [HS.out,hsz];go_num,K1.out,C3.out⟩
   case measure=>simp [intOf];omega
  ·have hjn:j=n:=by omega
   subst hjn;go_wp2_with fail;go_ret;have hF:=hown.out;have hl:=LX.out;rw [List.take_of_length_le (by rw [Vz];omega),List.drop_of_length_le (by omega),List.append_nil] at hF;exact ⟨rfl,hF,hch.out⟩
set_option maxHeartbeats 1600000 in
theorem heldAuthS_z (xss:List AuM) (v:Value) (k0:Int) (w:World) (h:(cauths (mkAS k0 xss)).rd w v) (hn:szA xss≤1048576) (h0:0≤k0) (h1:k0≤274877906944) :
  Calls Tryz.prog 79 #[v,.int .i64 k0] w fun e w'=>e=.returned (.int .i64 (k0+(auS xss xss.length:Nat)))∧w.grownBy w' none:=by
 obtain ⟨A,c,rfl,hc,hm⟩:=Qx h;rw [Vz] at hc h ⊢;have HX:=zH h;unfold szA at hn;obtain ⟨n,hnn⟩:∃n,xss.length=n:=⟨_,rfl⟩;rw [hnn] at hc hn HX ⊢;have LX:=zH hnn;unfold maxLen at hm;clear h hnn
 go_enter Tryz.func79,Tryz.ntmps79
 go_wp2_with fail
 go_loopw [1,5] (fun s i wr=>∃j:Nat,j≤n∧i=.int .i64 j∧s=.int .i64 (k0+(auS xss j:Nat))∧Hid (w.grownBy wr none)) (fun _ i _=>n - (intOf i).toNat)
 case atStart=>exact ⟨0,Nat.zero_le _,rfl,by rw [UC];go_num,gbR _ _⟩
 case round =>
  obtain ⟨j,hj,rfl,rfl,hG⟩:=hrel
  by_cases hlt:j<n
  ·have HXr:=CS.grow _ HX.out hG.out
   obtain ⟨b,o,y,rfl,hb,hy,hcel⟩:=lst_at (s:=2) (fun _=>rfl) (by omega) HXr hlt;have hjx:j<xss.length:=by have:=LX.out;omega
   have hx:xss[j]?=some xss[j]:=List.getElem?_eq_getElem hjx;have HS:=zH (WQ xss j _ hx);have HM:=zH (UD xss (show j+1≤n by omega));rw [mkAS_get,hx] at hy;generalize xss[j]=x at *;simp at hy;subst hy;obtain ⟨u0,q0,r0⟩:=hcel 0 (cints (marks (k0+(auS xss j:Nat)) x.sh.length)) rfl;obtain ⟨u1,q1,r1⟩:=hcel 1 (cints (marks (k0+(auS xss j:Nat)+x.sh.length) x.mc.length)) rfl;simp only [Nat.add_zero,← Nat.add_assoc] at q0 q1;have R0:=zH r0;have R1:=zH r1;have Q1:=zH q1;have hsz:x.sz=x.sh.length+x.mc.length:=rfl
   have hb1:auS xss j+x.sz≤1048576:=by
    have h1:=HS.out;have h2:=HM.out;omega
   have hb2:¬(k0+(auS xss j:Nat)+(x.sh.length:Int)<0):=by omega
   have hb3:¬(k0+(auS xss j:Nat)+(x.sh.length:Int)+(x.mc.length:Int)<0):=by omega
   have i1:(j:Int)<(n:Int):=by omega
   clear hx r0 r1 hcel HXr;go_wp2_with fail;refine (Wx x.sh.length u0 (k0+(auS xss j:Nat)) _ R0.out (by omega) (by omega) (by omega)).mono ?_;rintro e w2 ⟨rfl,g2⟩;have G2:=zH (gbT hG.out g2);have q1':=gbk g2 Q1.out;have R1':=zH (CS.grow _ R1.out g2);clear g2 q0 q1;go_wp2_with fail;refine (Wx x.mc.length u1 (k0+(auS xss j:Nat)+x.sh.length) _ R1'.out (by omega) (by omega) (by omega)).mono ?_;rintro e w3 ⟨rfl,g3⟩;have G3:=zH (gbT G2.out g3);clear g3 q1';go_wp2_with fail
   go_roundw
   case rel=>exact ⟨j+1,by omega,by go_num,by rw [HS.out,hsz];go_num,G3.out⟩
   case measure=>simp [intOf];omega
  ·have hjn:j=n:=by omega
   subst hjn;go_wp2_with fail;go_ret;exact ⟨rfl,hG.out⟩
end Go.Proofs.YthaadgdeadbhkaaGreat
