/-
 isZeroAuth of the program.
-/
import Derived.Test.YthaadgdeadbhkaaGreatMgFnExactCountOutcomes18
open Go.RowKit
set_option linter.unusedVariables false
set_option linter.unusedSimpArgs false
namespace Go.Proofs.YthaadgdeadbhkaaGreat
def zeroA (a:AuM):Bool:=decide (a.sh.length=0)&&decide (a.mc.length=0)
set_option maxHeartbeats 1000000 in
theorem ZF (a:AuM) (av:Value) (w0:World) (ha:AggR w0 (cauth a) av) :
  Calls Tryz.prog 124 #[av] w0 fun e w'=>e=.returned (.bool (zeroA a))∧w0.grownBy w' none:=by
 obtain ⟨Ba,da,Ca,fa,rfl,_,_,_,_,hSa,hMa⟩:=ZO ha;obtain ⟨w1,hw1⟩:∃x:World,w0.alloc (.cells #[.slice Ba a.sh.length da,.slice Ca a.mc.length fa] 80)=x:=⟨_,rfl⟩;have G1:Hid (w0.grownBy w1 none):=by rw [← hw1];exact gbA (gbR _ _) _
 have D1:Hid (Blk w1 w0.heap.size 80 #[.slice Ba a.sh.length da,.slice Ca a.mc.length fa]):=by rw [← hw1];exact Blk.new w0 _ _
 have HZ:Hid (zeroA a=(decide (a.sh.length=0)&&decide (a.mc.length=0))):=rfl;clear ha hSa hMa
 cases hs:decide (a.sh.length=0)
 ·rw [hs,Bool.false_and] at HZ
  have hs':¬a.sh.length=0:=by simpa using hs
  have d1:(((a.sh.length:Int) == 0))=false:=by simpa using hs'
  clear hs
  go_enter Tryz.func124,Tryz.ntmps124
  have a0:=D1.out.cell 0;have a1:=D1.out.cell 1;simp at a0 a1;go_wp2_with fail;exact bodyPost_ret (v:=.bool false) (by simp [results,Tryz.results124]) rfl ⟨retB HZ.out.symm,G1.out⟩
 ·have hs':a.sh.length=0:=by simpa using hs
  rw [hs,Bool.true_and] at HZ;clear hs;have d1:(((a.sh.length:Int) == 0))=true:=by simpa using hs'
  have hs':=zH hs'
  go_enter Tryz.func124,Tryz.ntmps124
  have a0:=D1.out.cell 0;have a1:=D1.out.cell 1;simp at a0 a1;go_wp2_with fail
  have hz:((a.mc.length:Int) == 0)=zeroA a:=by
   rw [HZ.out]
   by_cases h:a.mc.length=0 <;> simp [h]
  exact bodyPost_ret (v:=.bool ((a.mc.length:Int) == 0)) (by simp [results,Tryz.results124]) rfl ⟨retB hz,gbA (gbR _ _) _⟩
attribute [local simp] depsC dstAt kAt bindE List.filter_cons Zz Zq Zr Zs ZA ZW puts dsts Act.put
set_option maxHeartbeats 2000000 in
set_option maxRecDepth 100000 in
theorem implcopyAuth_c (a:AuM) (av:Value) (w0:World) (ha:AggR w0 (cauth a) av) (wa:awf a) :
  Calls Tryz.prog 131 #[av] w0 fun e w'=>∃v,e=.returned v∧autF w0.heap.size a v w'∧w0.grownBy w' none:=by
 obtain ⟨Ba,da,Ca,fa,rfl,_,_,_,_,hSa,hMa⟩:=ZO ha;obtain ⟨w1,hw1⟩:∃x:World,((w0.alloc (.cells #[.slice Ba a.sh.length da,.slice Ca a.mc.length fa] 80)).alloc (.cells #[.slice none 0 0,.slice none 0 0] 80))=x:=⟨_,rfl⟩;have GW:Hid (w0.grownBy w1 none):=by rw [← hw1];exact gbA (gbA (gbR _ _) _) _
 have z1:Hid (w1.heap.size=w0.heap.size+2):=by rw [← hw1];exact zH (by simp)
 have D1:Hid (Blk w1 w0.heap.size 80 #[.slice Ba a.sh.length da,.slice Ca a.mc.length fa]):=by rw [← hw1];exact (Blk.new w0 _ _).grow (gbA (gbR _ _) _)
 have D3:Hid (Blk w1 (w0.heap.size+1) 80 #[.slice none 0 0,.slice none 0 0]):=by rw [← hw1];exact Blk.new' _ _ _ _ (by simp)
 have IS:=zH (hSa.grow GW.out);have IM:=zH (hMa.grow GW.out);have WA:=zH wa;clear ha hSa hMa wa
 go_enter Tryz.func131,Tryz.ntmps131
 go_wp2_with fail;clear hw1;obtain ⟨lo,hlo⟩:∃lo,w0.heap.size+2=lo:=⟨_,rfl⟩;obtain ⟨gR,hgR'⟩:∃g,w0.heap.size+1=g:=⟨_,rfl⟩;have hgR:gR<lo:=by omega
 have hwR:w0.heap.size≤gR:=by omega
 have hlz:lo≤w1.heap.size:=by have:=z1.out;omega
 rw [hgR'] at D3 ⊢
 refine Zg [.rd (.pointer (some ⟨w0.heap.size,0,none⟩)),.rd (.slice Ba a.sh.length da),.ch,.rd (.pointer (some ⟨w0.heap.size,1,none⟩)),.rd (.slice Ca a.mc.length fa),.ch,.ch,.ch] (fun _=>False)
  [⟨[],fun _ w'=>w1.drew.grownBy w' none⟩,
   ⟨[5],fun l w'=>row1 lo a.sh.length a.sh (l.getD 0 undef) w'∧w1.drew.grownBy w' none⟩,
   ⟨[5,8],fun l w'=>row2 lo a.sh.length a.mc.length a.sh a.mc (l.getD 0 undef) (l.getD 1 undef) w'∧w1.drew.grownBy w' none⟩,
   ⟨[9],fun l w'=>autF lo ⟨a.sh,a.mc⟩ (l.getD 0 undef) w'∧w1.drew.grownBy w' none⟩,
   ⟨[],fun _ w'=>(∃A9 n9 c9 B9 k9 d9,autF lo ⟨a.sh,a.mc⟩ (.agg #[.slice A9 n9 c9,.slice B9 k9 d9]) w'∧Blk w' gR 80 #[.slice A9 n9 c9,.slice B9 k9 d9])∧w1.heap.size≤w'.heap.size∧w0.grownBy w' none⟩]
  (by kernel_rfl) (by kernel_rfl) (by kernel_rfl) 4 (by kernel_rfl) (by simp only [flOk,and_true]) (gbR _ _) rfl ?_ ?_
 ·simp only [hopsK,hopK,Kd.next,and_true]
  refine ⟨?_, ?_, ?_, ?_, ?_, ?_, ?_, ?_⟩;rotate_left 2
  ·intro f w4 hG hI hd
   have hI:w1.drew.grownBy w4 none:=hI;have hg4:=gbT (gbD (gbR w1 none)) hI;have hz4:=hg4.size
   (try simp at hd)
   (first | simp [hd] | simp)
   clear hd;go_wp2_with fail;refine (Jq Ba a.sh.length da a.sh w4 (IS.out.grow hg4) (by have:=WA.out.1;omega)).mono ?_;rintro e w6 ⟨v6,rfl,o6,g6⟩;have O6:=zH (ZE o6 (show lo≤w4.heap.size by omega));have G6:=zH (gbT hI g6);have Q6:=zH g6;clear o6 g6;go_wp2_with fail;exact ⟨_,rfl,⟨row1.of O6.out,G6.out⟩,⟨Chg.of Q6.out (by simp),by simp [keepsC]⟩⟩
  rotate_left 2
  ·intro f w4 hG hI hd
   obtain ⟨h1,hI⟩:=hI;have H1:Hid (row1 lo a.sh.length a.sh (f 5) w4):=zH h1;have hg4:=gbT (gbD (gbR w1 none)) hI;have hz4:=hg4.size;clear h1
   (try simp at hd)
   (first | simp [hd] | simp)
   clear hd;go_wp2_with fail;refine (Jq Ca a.mc.length fa a.mc w4 (IM.out.grow hg4) (by have:=WA.out.2;omega)).mono ?_;rintro e w6 ⟨v6,rfl,o6,g6⟩;have R6:=zH (row2.of H1.out g6 (show lo≤w4.heap.size by omega) o6);have G6:=zH (gbT hI g6);have Q6:=zH g6;clear o6 g6;go_wp2_with fail;exact ⟨_,rfl,⟨R6.out,G6.out⟩,⟨Chg.of Q6.out (by simp),by simp [keepsC]⟩⟩
  ·intro f w4 hG hI hd
   obtain ⟨h1,hI⟩:=hI;have h1:row2 lo a.sh.length a.mc.length a.sh a.mc (f 5) (f 8) w4:=h1;have HA:=h1.agg;obtain ⟨A1,c1,e1⟩:=h1.f1;obtain ⟨A2,c2,e2⟩:=h1.f2;rw [e1,e2] at HA;have HA:=zH HA;clear h1 hd;simp [puts,dsts,Act.put,e1,e2];go_wp2_with fail;exact ⟨_,rfl,⟨HA.out,hI⟩,⟨Chg.refl _ _,by simp [keepsC]⟩⟩
  ·intro f w4 hG hI hd
   obtain ⟨h1,hI⟩:=hI;have h1:autF lo ⟨a.sh,a.mc⟩ (f 9) w4:=h1;obtain ⟨A9,n9,c9,B9,k9,d9,e9⟩:=h1.form;rw [e9] at h1;have hg4:=gbT (gbD (gbR w1 none)) hI;have R4:=(D3.out).grow hg4;have f0:=R4.frozen 0;have f1:=R4.frozen 1;have b0:=R4.cell 0;have b1:=R4.cell 1;simp at b0 b1;have RS:=zH (Zd R4 [.slice A9 n9 c9,.slice B9 k9 d9] rfl);have CH:=Za gR [.slice A9 n9 c9,.slice B9 k9 d9] 0 w4;have AS:=zH (h1.chg CH hgR);have GS:=zH (Zu (gbT GW.out hg4) CH hwR);have ZS:=zH (Nat.le_trans hg4.size CH.size);clear R4 h1 hI CH
   (try simp at hd)
   simp [puts,dsts,Act.put,e9];go_wp2_with fail;exact ⟨rfl,.bool false,⟨A9,n9,c9,B9,k9,d9,AS.out,RS.out⟩,ZS.out,GS.out⟩
  all_goals
   intro f w4 hG hd;have hg4:=gbT (gbD (gbR w1 none)) (chgF hG);have k1:=(D1.out.grow hg4).cell 0;have k2:=(D1.out.grow hg4).cell 1;simp at k1 k2
   (try simp at hd)
   (first | simp [hd] | simp)
   clear hd;go_wp2_with fail;exact ⟨rfl,rfl⟩
 intro f w9 hI hd;obtain ⟨⟨A9,n9,c9,B9,k9,d9,hAU,hBR⟩,_,hGZ⟩:=hI;simp only [puts,dsts,Act.put,zB,zC,zA,zD,zE];clear hd;go_wp2_with fail;refine YJ Tryz.results131 (by rfl) stAuth (cs:=#[.slice A9 n9 c9,.slice B9 k9 d9]) hBR (by rfl) (by rfl) ?_;exact ⟨_,rfl,autF.lo hAU (by omega),hGZ⟩
end Go.Proofs.YthaadgdeadbhkaaGreat
namespace Go.Proofs.YthaadgdeadbhkaaGreat
section
variable {P:Program}
theorem QM (w:World) (t ty e:TypeId) (i:TypeInfo) (z:Value) (size bytes:Nat) (ht:P.underlying t=some (.slice e)) (hi:P.info? e=some i) (hz:i.zero=some z)
  (hsize:i.size=size) (hby:i.bytes=bytes) (hzs:z.cells.size=size) (hsz:0<size)
  (g:Nat) (hown:w.ownsRow 0 e size (.slice (some ⟨g,0,none⟩) 0 0) 0 [])
  (a:Addr) (m c:Nat) (news:List Value) (hl:news.length=m*size) (hnews:∀j u,news[j]?=some u→w.cell? (a.add j)=some u) (h1:∀u∈news,u.oneCell'=true)
  (h63:m≤maxLen) (hbytes:m*bytes≤140737488355328) :
  ∃v' w',(Builtin.append_ #[t,t] ty #[.slice (some ⟨g,0,none⟩) 0 0,.slice (some a) m c]).run P w=.ok v' w'∧w'.ownsRow 0 e size v' m news∧w.grownBy w' none∧(∀g',v'.ownBlock=some g'→g'=g∨w.heap.size≤g'):=by
 subst hsize;subst hby
 rcases Nat.eq_zero_or_pos m with h0 | h0
 ·subst h0
  obtain rfl:news=[]:=List.eq_nil_of_length_eq_zero (by simpa using hl);have hr:=run_append_room_cells (P:=P) (w:=w) t ty e i ht hi g 0 0 0 a 0 c [] (by simp) (by simp) (by simp) (by simp) (by simp) (by simp);refine ⟨_,_,hr, ?_, ?_, ?_⟩
  ·exact hown
  ·exact gbR _ _
  ·intro g' hg'
   simp [Value.ownBlock] at hg';exact .inl hg'.symm
 ·obtain ⟨v',w',hr,ho,hgr,_⟩:=run_append_own w 0 t ty e i z i.size i.bytes ht hi hz rfl rfl hzs hsz _ 0 [] hown a m c news hl hnews h1 (by omega) (by simpa using hbytes) (Nat.zero_le _)
  have holds:∀j u,([]:List Value)[j]?=some u→w.cell? ((⟨g,0,none⟩:Addr).add j)=some u:=fun j u h=>by simp at h
  have hr2:=run_append_grow (P:=P) w t ty e i z ht hi hz ⟨g,0,none⟩ 0 0 [] (by simp) holds a m c news hl hnews (by omega) (by simp only [maxLen] at h63;omega) (growslice_fits (by omega) (by simpa using hbytes));rw [hr] at hr2;injection hr2 with e1 e2;subst e2;refine ⟨_,_,hr,by simpa using ho,gbA (gbD (gbR _ _)) _,fun g' hg'=>.inr ?_⟩;subst e1;simp [Value.ownBlock] at hg';omega
variable {ops:Array Oper} {rest:List Oper} {o:Oper} {a:Act} {Q:Exit→Act→World→Prop}
theorem wp_appendE (wr:World) {t e:TypeId} {z:Value} {size bytes:Nat} (E:El P t e z size bytes) (hgd:o.guard=none) (s x:Operand)
  (ho:o.op=.call { callee:=.builtin .append,args:=#[s,x],argTypes:=#[t,t] })
  (g:Nat) (hown:wr.ownsRow 0 e size (.slice (some ⟨g,0,none⟩) 0 0) 0 []) (hs:a.eval s=.slice (some ⟨g,0,none⟩) 0 0) (A:Option Addr) (m c:Nat) (ys:List Value) (hx:a.eval x=.slice A m c) (hr:Rd wr size A m ys) (h1:∀u∈ys,u.oneCell'=true)
  (hn:m≤maxLen) (hb:m*bytes≤140737488355328)
  (h:∀v' w',w'.ownsRow 0 e size v' m ys→wr.grownBy w' none→(∀g',v'.ownBlock=some g'→g'=g∨wr.heap.size≤g')→wpList P ops Q rest (a.put o.dst v') w') :
  wpList P ops Q (o :: rest) a wr:=by
 obtain ⟨i,hi,hz0,hz1,hz2⟩:=info_parts E.hi
 have key:∀ad:Addr,A=some ad→(∀j u,ys[j]?=some u→wr.cell? (ad.add j)=some u)→wpList P ops Q (o :: rest) a wr:=fun ad hA hc=>by
  obtain ⟨v',w',hr,h2,h3,h4⟩:=QM (P:=P) wr t o.type e i z size bytes E.ht hi hz0 hz1 hz2 E.hz E.hs g hown ad m c ys hr.1 hc h1 hn hb;refine wpList_plain hgd fun _ hK => ?_;unfold Oper.wp execOp;simp only [ho,resolve,invoke,builtin,Sem.run_bind,Sem.run_pure,Result.andThen_ok,List.map_toArray,List.map_cons,List.map_nil,hs,hx,hA,hr];exact hK _ _ (h v' w' h2 h3 h4)
 rcases Nat.eq_zero_or_pos m with h0 | h0
 ·subst h0
  have hys:ys=[]:=List.eq_nil_of_length_eq_zero (by simpa using hr.1);subst hys
  cases A with
  | some ad=>exact key ad rfl fun j u hu=>by simp at hu
  | none =>
   refine wpList_plain hgd fun _ hK => ?_;have hrun:=Xs (P:=P) wr 0 t o.type e i size E.ht hi _ 0 [] hown c;unfold Oper.wp execOp;simp only [ho,resolve,invoke,builtin,Sem.run_bind,Sem.run_pure,Result.andThen_ok,List.map_toArray,List.map_cons,List.map_nil,hs,hx,hrun];exact hK _ _ (h _ wr hown (gbR _ _) fun g' hg=>.inl (by simp [Value.ownBlock] at hg;exact hg.symm))
 ·obtain ⟨b,off,hA,hb',hc⟩:=hr.2 h0
  refine key ⟨b,off,none⟩ hA fun j u hu => ?_;have hadd:(⟨b,off,none⟩:Addr).add j=⟨b,off+j,none⟩:=by unfold Addr.add;split <;> simp_all
  have hj:j<m*size:=by rw [← hr.1];exact (List.getElem?_eq_some_iff.1 hu).1
  rw [hadd,hc j hj,hu]
end
theorem Chg.rdk {S:Nat→Prop} {w w':World} {sz n:Nat} {A:Option Addr} {xs:List Value} (h:Rd w sz A n xs) (k:Chg S w w') (hs:0<n→∀a,A=some a→¬S a.block):Rd w' sz A n xs:=by
 rcases Nat.eq_zero_or_pos n with h0 | h0
 ·exact ⟨h.1,fun hn=>by omega⟩
 ·exact Chg.rd h k (hs h0)
def Vw:Code→List Code
 | .loop c=>.loop c :: Vw c
 | .region i o d=>[.region i o d]
 | .seq a b=>Vw a ++ Vw b
 | .block _ c=>Vw c
 | .scope c=>Vw c
 | .cond _ a b=>Vw a ++ Vw b
 | _=>[]
def isReg (k:Nat):Code→Bool
 | .region i _ _=>i == k
 | _=>false
noncomputable def regNo (f:Func) (k:Nat):Code:=((Vw (f.body.getD .skip)).find? (isReg k)).getD .skip
structure AS (lo g:Nat) (m:AM) (u1 u2:Value) (F1 F2:List Nat) (w:World):Prop where
 blk:Blk w g 38 #[.int .i64 m.p,u1,u2]
 s:(csteps m.st).own w F1 u1
 o:(cints m.outs).own w F2 u2
 l1:∀y∈F1,lo≤y∧y≠g∧y∉F2
 l2:∀y∈F2,lo≤y∧y≠g
 lg:lo≤g
def ASE (lo g:Nat) (m:AM) (w:World):Prop:=∃u1 u2 F1 F2,AS lo g m u1 u2 F1 F2 w
section
variable {lo g:Nat} {m:AM} {u1 u2:Value} {F1 F2:List Nat} {w w':World}
theorem AS.grow (h:AS lo g m u1 u2 F1 F2 w) (k:w.grownBy w' none):AS lo g m u1 u2 F1 F2 w':=⟨h.blk.grow k,Zi _ h.s k,Zi _ h.o k,h.l1,h.l2,h.lg⟩
theorem ASE.grow (h:ASE lo g m w) (k:w.grownBy w' none):ASE lo g m w':=by
 obtain ⟨u1,u2,F1,F2,h⟩:=h;exact ⟨u1,u2,F1,F2,h.grow k⟩
theorem AS.chg {S:Nat→Prop} (h:AS lo g m u1 u2 F1 F2 w) (k:Chg S w w') (hs:∀y,S y→y<lo):AS lo g m u1 u2 F1 F2 w' :=
 ⟨h.blk.chg k (fun e=>by have:=hs _ e;have:=h.lg;omega),Yv _ h.s k (fun y hy e=>by have:=hs _ e;have:=(h.l1 y hy).1;omega),Yv _ h.o k (fun y hy e=>by have:=hs _ e;have:=(h.l2 y hy).1;omega),h.l1,h.l2,h.lg⟩
theorem ASE.chg {S:Nat→Prop} (h:ASE lo g m w) (k:Chg S w w') (hs:∀y,S y→y<lo):ASE lo g m w':=by
 obtain ⟨u1,u2,F1,F2,h⟩:=h;exact ⟨u1,u2,F1,F2,h.chg k hs⟩
theorem AS.steps {S:Nat→Prop} {l:List (Int × Int × Int)} {v:Value} {F:List Nat} (h:AS lo g m u1 u2 F1 F2 w) (k:Chg S w w') (hs:∀y,S y→y<lo∨y∈F1) (hv:(csteps l).own w' F v) (hF:∀y∈F,y∈F1∨w.heap.size≤y) :
  AS lo g { m with st:=l } v u2 F F2 (w'.setCell ⟨g,1,none⟩ v):=by
 have hb:=(h.blk.chg k (fun e=>by
  rcases hs _ e with e | e
  ·have:=h.lg;omega
  ·exact (h.l1 g e).2.1 rfl)).set_ 1 v
 have ho:=Yv _ h.o k (fun y hy e=>by
  rcases hs _ e with e | e
  ·have:=(h.l2 y hy).1;omega
  ·exact (h.l1 y e).2.2 hy)
 have hl:∀y∈F,lo≤y∧y≠g∧y∉F2:=fun y hy=>by
  rcases hF y hy with e | e
  ·exact h.l1 y e
  ·exact ⟨by have:=h.blk.lt;have:=h.lg;omega,fun e'=>by have:=h.blk.lt;omega,fun e'=>by have:=CS.lt _ h.o y e';omega⟩
 exact ⟨by simpa using hb,UC _ hv g 1 (fun hx=>(hl g hx).2.1 rfl) v,UC _ ho g 1 (fun hx=>(h.l2 g hx).2 rfl) v,hl,h.l2,h.lg⟩
theorem AS.outs {S:Nat→Prop} {l:List Int} {v:Value} {F:List Nat} (h:AS lo g m u1 u2 F1 F2 w) (k:Chg S w w') (hs:∀y,S y→y<lo∨y∈F2) (hv:(cints l).own w' F v) (hF:∀y∈F,y∈F2∨w.heap.size≤y) :
  AS lo g { m with outs:=l } u1 v F1 F (w'.setCell ⟨g,2,none⟩ v):=by
 have hb:=(h.blk.chg k (fun e=>by
  rcases hs _ e with e | e
  ·have:=h.lg;omega
  ·exact (h.l2 g e).2 rfl)).set_ 2 v
 have ho:=Yv _ h.s k (fun y hy e=>by
  rcases hs _ e with e | e
  ·have:=(h.l1 y hy).1;omega
  ·exact (h.l1 y hy).2.2 e)
 have hl:∀y∈F,lo≤y∧y≠g∧y∉F1:=fun y hy=>by
  rcases hF y hy with e | e
  ·exact ⟨(h.l2 y e).1,(h.l2 y e).2,fun e'=>(h.l1 y e').2.2 e⟩
  ·exact ⟨by have:=h.blk.lt;have:=h.lg;omega,fun e'=>by have:=h.blk.lt;omega,fun e'=>by have:=CS.lt _ h.s y e';omega⟩
 exact ⟨by simpa using hb,UC _ ho g 2 (fun hx=>(h.l1 g hx).2.1 rfl) v,UC _ hv g 2 (fun hx=>(hl g hx).2.1 rfl) v,fun y hy=>⟨(h.l1 y hy).1,(h.l1 y hy).2.1,fun e=>(hl y e).2.2 hy⟩,fun y hy=>⟨(hl y hy).1,(hl y hy).2.1⟩,h.lg⟩
end
def CaseI (lo g:Nat) (p:Int) (i:Nat) (w:World):Prop:=∃m:AM,m.p=p∧m.outs=[]∧m.st.length=i∧(∀j,j<i→stepB p j (m.st.getD j (0,0,0))=true)∧ASE lo g m w
theorem CaseI.push {lo g:Nat} {p:Int} {i:Nat} {w:World} {m:AM} {s:Stp} (h1:m.p=p) (h2:m.outs=[]) (h3:m.st.length=i) (h4:∀j,j<i→stepB p j (m.st.getD j (0,0,0))=true) (hs:stepB p i s=true) (h:ASE lo g { m with st:=m.st ++ [s] } w):CaseI lo g p (i+1) w:=by
 refine ⟨{ m with st:=m.st ++ [s] },h1,h2,by simp [h3],fun j hj => ?_,h⟩
 show stepB p j ((m.st ++ [s]).getD j (0,0,0))=true
 rw [zF]
 by_cases e:j<i
 ·rw [List.getElem?_append_left (by omega),← zF]
  exact h4 j e
 ·obtain rfl:j=i:=by omega
  rw [List.getElem?_append_right (by omega)]
  simpa [h3] using hs
attribute [local simp] depsC dstAt kAt bindE List.filter_cons Zz Zq Zr Zs ZA ZW
set_option maxHeartbeats 2000000 in
set_option maxRecDepth 100000 in
theorem VZ (k:KM) (kv:Value) (w0:World) (h:AggR w0 (ckeys k) kv) (wk:kwf k) :
  Calls Tryz.prog 113 #[kv] w0 fun e w'=>∃v,e=.returned v∧aggF w0.heap.size (ckeys k) v w'∧w0.grownBy w' none:=by
 obtain ⟨A,c,rfl,hc,hm,hI⟩:=ZG h;obtain ⟨w1,hw1⟩:∃x:World,((w0.alloc (.cells #[.int .i64 k.p,.slice A k.al.length c] 34)).alloc (.cells #[.int .i64 0,.slice none 0 0] 34))=x:=⟨_,rfl⟩;have GW:Hid (w0.grownBy w1 none):=by rw [← hw1];exact gbA (gbA (gbR _ _) _) _
 have z1:Hid (w1.heap.size=w0.heap.size+2):=by rw [← hw1];exact zH (by simp)
 have D1:Hid (Blk w1 w0.heap.size 34 #[.int .i64 k.p,.slice A k.al.length c]):=by rw [← hw1];exact (Blk.new w0 _ _).grow (gbA (gbR _ _) _)
 have D3:Hid (Blk w1 (w0.heap.size+1) 34 #[.int .i64 0,.slice none 0 0]):=by rw [← hw1];exact Blk.new' _ _ _ _ (by simp)
 have IS:=zH (hI.grow GW.out);have WK:=zH wk.2;clear h hI wk
 go_enter Tryz.func113,Tryz.ntmps113
 go_wp2_with fail;clear hw1;have hlz:w0.heap.size+2≤w1.heap.size:=by have:=z1.out;omega
 have d0:=D1.out.cell 0;have d1:=D1.out.cell 1;simp at d0 d1
 refine Zg [.rd (.pointer (some ⟨w0.heap.size,0,none⟩)),.rd (.int .i64 k.p),.rd (.pointer (some ⟨w0.heap.size,1,none⟩)),.rd (.slice A k.al.length c),.ch,.ch,.ch] (fun _=>False)
  [⟨[],fun _ w'=>w1.drew.grownBy w' none⟩,
   ⟨[7],fun l w'=>ownF (w0.heap.size+2) (cints k.al) (l.getD 0 undef) w'⟩,
   ⟨[8],fun l w'=>aggF (w0.heap.size+2) (ckeys k) (l.getD 0 undef) w'⟩,
   ⟨[],fun _ w'=>∃F,SOF 34 (ckeys k) (w0.heap.size+1) F w'∧(∀x∈F,w0.heap.size≤x)∧w0.grownBy w' none⟩]
  (by kernel_rfl) (by kernel_rfl) (by kernel_rfl) 3 (by kernel_rfl) (by simp only [flOk,and_true]) (gbR _ _) rfl ?_ ?_
 ·simp only [hopsK,hopK,Kd.next,and_true]
  refine ⟨?_, ?_, ?_, ?_, ?_, ?_, ?_⟩;rotate_left 4
  ·intro f w4 hG hI hd
   have hg4:=gbT (gbD (gbR w1 none)) (chgF hG);have hz4:=hg4.size
   (try simp at hd)
   (first | simp [puts,dsts,Act.put,hd] | simp [puts,dsts,Act.put])
   clear hd;go_wp2_with fail;refine (Jq A k.al.length c k.al w4 (IS.out.grow hg4) (by have:=WK.out;omega)).mono ?_;rintro e w6 ⟨v6,rfl,o6,g6⟩;have O6:=zH (ownF.ints (ZE o6 (show w0.heap.size+2≤w4.heap.size by omega)));have G6:=zH g6;clear o6 g6;go_wp2_with fail;exact ⟨_,rfl,O6.out,⟨Chg.of G6.out (by simp),by simp [keepsC]⟩⟩
  ·intro f w4 hG hI hd
   have hg4:=gbT (gbD (gbR w1 none)) (chgF hG);have hz4:=hg4.size;obtain ⟨F,o7,l7⟩:=hI;have o7:(cints k.al).own w4 F (f 7):=o7;obtain ⟨B1,n1,c1,e7⟩:=ZV o7;rw [e7] at o7
   (try simp at hd)
   simp [puts,dsts,Act.put,hd,e7];clear hd;go_wp2_with fail;exact ⟨_,rfl,⟨_,ckeys_omk o7,fun x hx=>l7 x (by simpa using hx)⟩,⟨Chg.refl _ _,by simp [keepsC]⟩⟩
  ·intro f w4 hG hI hd
   have hg4:=gbT (gbD (gbR w1 none)) (chgF hG);have hz4:=hg4.size;obtain ⟨F,o8,l8⟩:=hI;have o8:AggO w4 (ckeys k) F (f 8):=o8;obtain ⟨B1,n1,c1,e8⟩:=Uh o8;rw [e8] at o8;have R4:=D3.out.grow hg4;have f0:=R4.frozen 0;have f1:=R4.frozen 1;have b0:=R4.cell 0;have b1:=R4.cell 1;simp at b0 b1;have RS:=zH (SOF.store R4 (us:=[.int .i64 k.p,.slice B1 n1 c1]) rfl o8 (fun hx=>by have:=l8 _ hx;omega));have GS:=zH (Zu (gbT GW.out hg4) (Za (w0.heap.size+1) [.int .i64 k.p,.slice B1 n1 c1] 0 w4) (by omega))
   (try simp at hd)
   simp [puts,dsts,Act.put,hd,e8];clear hd R4;go_wp2_with fail;exact ⟨rfl,.bool false,F,RS.out,fun x hx=>by have:=l8 x hx;omega,GS.out⟩
  all_goals
   intro f w4 hG hd;have hg4:=gbT (gbD (gbR w1 none)) (chgF hG);have k0:=gbk hg4 (d0);have k1:=gbk hg4 (d1)
   (try simp at hd)
   (first | simp [puts,dsts,Act.put,hd] | simp [puts,dsts,Act.put])
   clear hd;go_wp2_with fail;exact ⟨rfl,rfl⟩
 intro f w9 hI hd;simp only [puts,dsts,Act.put,zB,zC,zA,zD,zE];obtain ⟨F,hS,hl,hG⟩:=hI;obtain ⟨vs,hB,hA⟩:=hS.agg;have HA:=zH hA;have HL:=zH hl;have HG:=zH hG;clear hd hS hA hl hG d0 d1;go_wp2_with fail;refine YJ Tryz.results113 (by rfl) stKeys (cs:=vs.toArray) hB (by rw [List.size_toArray];exact Vi HA.out) (by rfl) ?_;exact ⟨_,rfl,⟨F,HA.out,HL.out⟩,HG.out⟩
end Go.Proofs.YthaadgdeadbhkaaGreat
namespace Go.Proofs.YthaadgdeadbhkaaGreat
attribute [local simp] depsC dstAt kAt bindE List.filter_cons Zz Zq Zr Zs ZA ZW
structure amwf (m:AM):Prop where
 wf:m.wf
 st:m.st.length≤1048576
 outs:m.outs.length≤1048576
set_option maxHeartbeats 2000000 in
set_option maxRecDepth 100000 in
theorem Vx (m:AM) (v:Value) (w0:World) (h:AggR w0 (carith m) v) (wm:amwf m) :
  Calls Tryz.prog 114 #[v] w0 fun e w'=>∃v,e=.returned v∧aggF w0.heap.size (carith m) v w'∧w0.grownBy w' none:=by
 obtain ⟨u1,u2,rfl,h1,h2⟩:=Zt h;obtain ⟨A,c,rfl,hc,hm,hF⟩:=ZP (s:=3) (fun _=>rfl) (by omega) h1;obtain ⟨B,d,rfl,hd1,hm2,hJ⟩:=Zx h2;obtain ⟨w1,hw1⟩:∃x:World,((w0.alloc (.cells #[.int .i64 m.p,.slice A m.st.length c,.slice B m.outs.length d] 38)).alloc (.cells #[.int .i64 0,.slice none 0 0,.slice none 0 0] 38))=x:=⟨_,rfl⟩;have GW:Hid (w0.grownBy w1 none):=by rw [← hw1];exact gbA (gbA (gbR _ _) _) _
 have z1:Hid (w1.heap.size=w0.heap.size+2):=by rw [← hw1];exact zH (by simp)
 have D1:Hid (Blk w1 w0.heap.size 38 #[.int .i64 m.p,.slice A m.st.length c,.slice B m.outs.length d]):=by rw [← hw1];exact (Blk.new w0 _ _).grow (gbA (gbR _ _) _)
 have D3:Hid (Blk w1 (w0.heap.size+1) 38 #[.int .i64 0,.slice none 0 0,.slice none 0 0]):=by rw [← hw1];exact Blk.new' _ _ _ _ (by simp)
 have IF:=zH (FL.grow hF GW.out);have IJ:=zH (hJ.grow GW.out);have WM:=zH wm;clear h h1 h2 hF hJ wm
 go_enter Tryz.func114,Tryz.ntmps114
 go_wp2_with fail;clear hw1;have hlz:w0.heap.size+2≤w1.heap.size:=by have:=z1.out;omega
 have d0:=D1.out.cell 0;have d1:=D1.out.cell 1;have d2:=D1.out.cell 2;simp at d0 d1 d2
 refine Zg [.rd (.pointer (some ⟨w0.heap.size,0,none⟩)),.rd (.int .i64 m.p),.ch,.rd (.pointer (some ⟨w0.heap.size,1,none⟩)),.rd (.slice A m.st.length c),.ch,.rd (.pointer (some ⟨w0.heap.size,2,none⟩)),.rd (.slice B m.outs.length d),.ch,.ch,.ch] (fun _=>False)
  [⟨[],fun _ w'=>w1.drew.grownBy w' none⟩,
   ⟨[5],fun l w'=>∃g,l.getD 0 undef=.slice (some ⟨g,0,none⟩) 0 0∧w'.ownsRow 0 102 3 (.slice (some ⟨g,0,none⟩) 0 0) 0 []∧w1.heap.size≤g⟩,
   ⟨[8],fun l w'=>ownF (w0.heap.size+2) (csteps m.st) (l.getD 0 undef) w'⟩,
   ⟨[8,11],fun l w'=>ownL (w0.heap.size+2) [csteps m.st,cints m.outs] [l.getD 0 undef,l.getD 1 undef] w'⟩,
   ⟨[12],fun l w'=>aggF (w0.heap.size+2) (carith m) (l.getD 0 undef) w'⟩,
   ⟨[],fun _ w'=>∃F,SOF 38 (carith m) (w0.heap.size+1) F w'∧(∀x∈F,w0.heap.size≤x)∧w0.grownBy w' none⟩]
  (by kernel_rfl) (by kernel_rfl) (by kernel_rfl) 5 (by kernel_rfl) (by simp only [flOk,and_true]) (gbR _ _) rfl ?_ ?_
 ·simp only [hopsK,hopK,Kd.next,and_true]
  refine ⟨?_, ?_, ?_, ?_, ?_, ?_, ?_, ?_, ?_, ?_, ?_⟩;rotate_left 2
  ·intro f w4 hG hI hd
   have hg4:=gbT (gbD (gbR w1 none)) (chgF hG);have hz4:=hg4.size;clear hd;simp [puts,dsts,Act.put];go_wp2_with fail;exact ⟨_,rfl,⟨_,rfl,World.ownsRow_made w4 #[] 0 (Nat.zero_le _) (by simp) rfl,hg4.size⟩,⟨Chg.of (gbA (gbR _ none) _) (by simp),by simp [keepsC]⟩⟩
  rotate_left 2
  ·intro f w4 hG hI hd
   have hg4:=gbT (gbD (gbR w1 none)) (chgF hG);have hz4:=hg4.size;obtain ⟨g,e5,o5,l5⟩:=hI;have e5:f 5=.slice (some ⟨g,0,none⟩) 0 0:=e5
   (try simp at hd)
   simp [puts,dsts,Act.put,hd,e5];clear hd
   go_wp2_with (at_builtin;refine wp_appendE w4 elStep rfl (.tmp 5) (.tmp 7) rfl g o5 rfl A m.st.length c _ rfl (FL.grow IF.out hg4).rd (fun u hu=>by obtain ⟨x,_,hx⟩:=List.mem_flatMap.1 hu;exact Ku x u hx) (by have:=WM.out.st;unfold maxLen;omega) (by have:=WM.out.st;omega) ?_;intro v6 w6 o6 g6 n6)
   have O6:Hid (ownF (w0.heap.size+2) (csteps m.st) v6 w6):=zH ⟨_,Vf (s:=3) (fun _=>rfl) (by omega) Ku o6,fun x hx=>by rcases n6 x (by simpa using hx) with h6 | h6 <;> omega⟩;exact ⟨_,rfl,O6.out,⟨Chg.of g6 (by simp),by simp [keepsC]⟩⟩
  rotate_left 2
  ·intro f w4 hG hI hd
   have hg4:=gbT (gbD (gbR w1 none)) (chgF hG);have hz4:=hg4.size;have H8:Hid (ownF (w0.heap.size+2) (csteps m.st) (f 8) w4):=hI;clear hI
   (try simp at hd)
   (first | simp [puts,dsts,Act.put,hd] | simp [puts,dsts,Act.put])
   clear hd;go_wp2_with fail;refine (Jq B m.outs.length d m.outs w4 (IJ.out.grow hg4) (by have:=WM.out.outs;omega)).mono ?_;rintro e w6 ⟨v6,rfl,o6,g6⟩;have O6:=zH (H8.out.one.app g6 (ownF.ints (lo:=w4.heap.size) o6).one (by omega));have G6:=zH g6;clear o6 g6;go_wp2_with fail;exact ⟨_,rfl,O6.out,⟨Chg.of G6.out (by simp),by simp [keepsC]⟩⟩
  ·intro f w4 hG hI hd
   have hg4:=gbT (gbD (gbR w1 none)) (chgF hG);have hz4:=hg4.size;have o7:ownL (w0.heap.size+2) [csteps m.st,cints m.outs] [f 8,f 11] w4:=hI;obtain ⟨F9,o9,l9⟩:=(o7.pl (x:=.int .i64 m.p) rfl).agg;obtain ⟨A1,n1,s1,A2,n2,s2,e⟩:=YH o9;injection e with e;injection e with e;injection e with _ e;injection e with e8 e;injection e with e11 _;rw [e8,e11] at o9
   (try simp at hd)
   simp [puts,dsts,Act.put,hd,e8,e11];clear hd;go_wp2_with fail;exact ⟨_,rfl,⟨F9,o9,l9⟩,⟨Chg.refl _ _,by simp [keepsC]⟩⟩
  ·intro f w4 hG hI hd
   have hg4:=gbT (gbD (gbR w1 none)) (chgF hG);have hz4:=hg4.size;obtain ⟨F,o8,l8⟩:=hI;have o8:AggO w4 (carith m) F (f 12):=o8;obtain ⟨A1,n1,s1,A2,n2,s2,e8⟩:=YH o8;rw [e8] at o8;have R4:=D3.out.grow hg4;have f0:=R4.frozen 0;have f1:=R4.frozen 1;have f2:=R4.frozen 2;have b0:=R4.cell 0;have b1:=R4.cell 1;have b2:=R4.cell 2;simp at b0 b1 b2;have RS:=zH (SOF.store R4 (us:=[.int .i64 m.p,.slice A1 n1 s1,.slice A2 n2 s2]) rfl o8 (fun hx=>by have:=l8 _ hx;omega));have GS:=zH (Zu (gbT GW.out hg4) (Za (w0.heap.size+1) [.int .i64 m.p,.slice A1 n1 s1,.slice A2 n2 s2] 0 w4) (by omega))
   (try simp at hd)
   simp [puts,dsts,Act.put,hd,e8];clear hd R4;go_wp2_with fail;exact ⟨rfl,.bool false,F,RS.out,fun x hx=>by have:=l8 x hx;omega,GS.out⟩
  all_goals
   intro f w4 hG hd;have hg4:=gbT (gbD (gbR w1 none)) (chgF hG);have k0:=gbk hg4 (d0);have k1:=gbk hg4 (d1);have k2:=gbk hg4 (d2)
   (try simp at hd)
   (first | simp [puts,dsts,Act.put,hd] | simp [puts,dsts,Act.put])
   clear hd;go_wp2_with fail;exact ⟨rfl,rfl⟩
 intro f w9 hI hd;simp only [puts,dsts,Act.put,zB,zC,zA,zD,zE];obtain ⟨F,hS,hl,hG⟩:=hI;obtain ⟨vs,hB,hA⟩:=hS.agg;have HA:=zH hA;have HL:=zH hl;have HG:=zH hG;clear hd hS hA hl hG d0 d1 d2;go_wp2_with fail;refine YJ Tryz.results114 (by rfl) stArith (cs:=vs.toArray) hB (by rw [List.size_toArray];exact Vi HA.out) (by rfl) ?_;exact ⟨_,rfl,⟨F,HA.out,HL.out⟩,HG.out⟩
end Go.Proofs.YthaadgdeadbhkaaGreat
namespace Go.Proofs.YthaadgdeadbhkaaGreat
theorem em1 (p a:Int):a % p % p=a % p:=Int.emod_emod_of_dvd _ (Int.dvd_refl p)
theorem mm1 (p a b:Int):(a % p*b) % p=(a*b) % p:=by rw [Int.mul_emod,em1,← Int.mul_emod]
theorem Kb (p:Int):∀xs ys:List Int,xs.length=ys.length→fsum p (addS p xs ys)=(fsum p xs+fsum p ys) % p
 | [],[],_=>by simp [addS,fsum]
 | [],_ :: _,h=>by simp at h
 | _ :: _,[],h=>by simp at h
 | x :: xs,y :: ys,h=>by
  have ih:=Kb p xs ys (by simpa using h);unfold fsum addS at *;simp only [List.zipWith_cons_cons,List.sum_cons];rw [Int.emod_add_emod,← Int.add_emod_emod,ih,Int.add_emod_emod,Int.emod_add_emod,Int.add_emod_emod,← Int.add_assoc,Int.add_emod_emod,← Int.add_assoc];rw [show x+y+xs.sum % p+ys.sum=xs.sum % p+(x+y+ys.sum) by omega,Int.emod_add_emod]
  congr 1;omega
theorem sclS_sum (p k:Int):∀xs:List Int,fsum p (sclS p xs k)=(fsum p xs*k) % p
 | []=>by simp [sclS,fsum]
 | x :: xs=>by
  have ih:=sclS_sum p k xs;unfold fsum sclS at *;simp only [List.map_cons,List.sum_cons];rw [Int.emod_add_emod,← Int.add_emod_emod,ih,Int.add_emod_emod,mm1,← Int.add_emod_emod,mm1,Int.add_emod_emod,Int.add_mul]
theorem cstS_sum (p k:Int) (xs:List Int) (h:1≤xs.length):fsum p (cstS p xs k)=(fsum p xs+k) % p:=by
 cases xs with
 | nil=>simp at h
 | cons x xs =>
  unfold fsum cstS;simp only [zD,List.sum_cons,List.getD_cons_zero];rw [Int.emod_add_emod,Int.emod_add_emod]
  congr 1;omega
theorem mac_add (p u v x:Int):((u*x) % p+(v*x) % p) % p=((u+v) % p*x) % p:=by
 rw [mm1,Int.emod_add_emod,Int.add_emod_emod,Int.add_mul]
theorem mac_const (p u x c:Int):((u*x) % p+(x*c) % p) % p=((u+c) % p*x) % p:=by
 rw [Int.mul_comm x c,mac_add]
structure Good (k:KM) (a:AuM) (v:Int):Prop where
 form:formB k a=true
 sh:fsum k.p a.sh=v
 mc:fsum k.p a.mc=(v*fsum k.p k.al) % k.p
theorem KT {k:KM} {a:AuM} (h:keysB k=true) (h1:a.sh.length=k.al.length) (h2:a.mc.length=k.al.length) (h3:elemsB k.p a.sh=true) (h4:elemsB k.p a.mc=true):formB k a=true:=by
 unfold formB formA;rw [h,h1,h2,h3,h4];simp
theorem Good.rng {k:KM} {a:AuM} {v:Int} (h:Good k a v):0≤v∧v<k.p:=by
 obtain ⟨hk,_⟩:=Yb h.form;obtain ⟨hf,_⟩:=Yc hk;have:=UG (ZC hf).1 a.sh;rw [h.sh] at this;exact this
theorem UK {k:KM} {a b:AuM} (ha:formB k a=true) (hb:formB k b=true):ZD k a b=⟨addS k.p a.sh b.sh,addS k.p a.mc b.mc⟩∧formB k (ZD k a b)=true:=by
 obtain ⟨hk,a1,a2,a3,a4,a5,a6,a7⟩:=Yb ha;obtain ⟨_,b1,b2,b3,b4,_⟩:=Yb hb;obtain ⟨hf,_⟩:=Yc hk;have e:ZD k a b=⟨addS k.p a.sh b.sh,addS k.p a.mc b.mc⟩:=by unfold ZD;rw [ha,hb];rfl
 refine ⟨e, ?_⟩;rw [e];exact KT hk (by rw [UJ (by omega)];exact a1) (by rw [UJ (by omega)];exact a2) (Qh hf) (Qh hf)
theorem Good.add {k:KM} {a b:AuM} {u v:Int} (ha:Good k a u) (hb:Good k b v):Good k (ZD k a b) ((u+v) % k.p):=by
 obtain ⟨hk,a1,a2,a3,a4,a5,a6,a7⟩:=Yb ha.form;obtain ⟨_,b1,b2,b3,b4,_⟩:=Yb hb.form;obtain ⟨e,f⟩:=UK ha.form hb.form;refine ⟨f, ?_, ?_⟩
 ·rw [e,Kb _ _ _ (by omega),ha.sh,hb.sh]
 ·rw [e,Kb _ _ _ (by omega),ha.mc,hb.mc,mac_add]
theorem form_scale {k:KM} {a:AuM} {c:Int} (ha:formB k a=true) (hc:elemB k.p c=true):Zk k a c=⟨sclS k.p a.sh c,sclS k.p a.mc c⟩∧formB k (Zk k a c)=true:=by
 obtain ⟨hk,a1,a2,a3,a4,a5,a6,a7⟩:=Yb ha;have e:Zk k a c=⟨sclS k.p a.sh c,sclS k.p a.mc c⟩:=by unfold Zk;rw [ha,hc];rfl
 refine ⟨e, ?_⟩;rw [e];exact KT hk (by rw [XM];exact a1) (by rw [XM];exact a2) (VN a3) (VN a4)
theorem Qj {k:KM} {a:AuM} {c:Int} (ha:formB k a=true) (hc:elemB k.p c=true):ZH k a c=⟨cstS k.p a.sh c,addS k.p a.mc (sclS k.p k.al c)⟩∧formB k (ZH k a c)=true:=by
 obtain ⟨hk,a1,a2,a3,a4,a5,a6,a7⟩:=Yb ha;obtain ⟨hf,_⟩:=Yc hk;have e:ZH k a c=⟨cstS k.p a.sh c,addS k.p a.mc (sclS k.p k.al c)⟩:=by unfold ZH;rw [ha,hc];rfl
 refine ⟨e, ?_⟩;rw [e];exact KT hk (by rw [cstS_len];exact a1) (by rw [UJ (by rw [XM];omega)];exact a2) (cstS_elems a3) (Qh hf)
theorem Good.const {k:KM} {a:AuM} {u c:Int} (ha:Good k a u) (hc:elemB k.p c=true):Good k (ZH k a c) ((u+c) % k.p):=by
 obtain ⟨hk,a1,a2,a3,a4,a5,a6,a7⟩:=Yb ha.form;obtain ⟨e,f⟩:=Qj ha.form hc;refine ⟨f, ?_, ?_⟩
 ·rw [e,cstS_sum _ _ _ (by omega),ha.sh]
 ·rw [e,Kb _ _ _ (by rw [XM];omega),sclS_sum,ha.mc,mac_const]
theorem Good.new {k:KM} {P s a:Nat} {x:Int} (hk:keysB k=true) (hP:k.p=P) (hx:elemB k.p x=true):Good k (ZL k P s a x) x:=by
 obtain ⟨hf,he,n1,n5⟩:=Yc hk;obtain ⟨_,p2,p101,x0,x1⟩:=ZT hx;have hT:∀a k',elemsB k.p (tapeL s a P k')=true:=fun a k'=>by rw [hP] at hf ⊢;exact VK hf (by omega)
 have hl:∀(y:Int) (a:Nat),(shareL k.p y (tapeL s a P (k.al.length - 1))).length=k.al.length:=fun y a=>by rw [Qd,Kx];omega
 have hy:0≤(x*fsum k.p k.al) % k.p∧(x*fsum k.p k.al) % k.p<k.p:=⟨Int.emod_nonneg _ (by omega),Int.emod_lt_of_pos _ (by omega)⟩;unfold ZL;exact ⟨KT hk (hl _ _) (hl _ _) (Qx (hT _ _)) (Qx (hT _ _)),shareL_sum x0 x1,shareL_sum hy.1 hy.2⟩
theorem zero_sum (p:Int) (n:Nat):fsum p (List.replicate n 0)=0:=by
 have:(List.replicate n (0:Int)).sum=0:=by
  induction n with
  | zero=>rfl
  | succ n ih=>rw [List.replicate_succ,List.sum_cons,ih];rfl
 unfold fsum;rw [this,Int.zero_emod]
def zerosA (n:Nat):AuM:=⟨List.replicate n 0,List.replicate n 0⟩
theorem Good.zeros {k:KM} (hk:keysB k=true):Good k (zerosA k.al.length) 0:=by
 obtain ⟨hf,he,n1,n5⟩:=Yc hk;obtain ⟨p2,p101⟩:=ZC hf;have hz:elemsB k.p (List.replicate k.al.length 0)=true:=YZ hf fun z hz=>by rw [List.eq_of_mem_replicate hz];omega
 exact ⟨KT hk (by simp [zerosA]) (by simp [zerosA]) hz hz,zero_sum _ _,by rw [Int.zero_mul,Int.zero_emod];exact zero_sum _ _⟩
structure GoodT (k:KM) (x:TrM) (u v:Int):Prop where
 a:Good k x.a u
 b:Good k x.b v
 c:Good k x.c ((u*v) % k.p)
theorem form_use {k:KM} {x:TrM} {d e:Int} (ha:formB k x.a=true) (hb:formB k x.b=true) (hc:formB k x.c=true) (hd:elemB k.p d=true) (he:elemB k.p e=true) :
  ZJ k x d e=ZH k (ZD k (ZD k x.c (Zk k x.b d)) (Zk k x.a e)) ((d*e) % k.p)∧formB k (ZJ k x d e)=true:=by
 have hf:=(ZT hd).1;have e1:ZJ k x d e=ZH k (ZD k (ZD k x.c (Zk k x.b d)) (Zk k x.a e)) ((d*e) % k.p):=by unfold ZJ;rw [ha,hb,hc,hd,he];rfl
 refine ⟨e1, ?_⟩;rw [e1];exact (Qj (UK (UK hc (form_scale hb hd).2).2 (form_scale ha he).2).2 (Yg hf _)).2
theorem GoodT.new {k:KM} {P s a:Nat} (hk:keysB k=true) (hP:k.p=P):GoodT k (Ys k P s a) (tnA s a P) (tnB s a P):=by
 obtain ⟨hf,_⟩:=Yc hk;obtain ⟨p2,p101⟩:=ZC hf;have h1:∀a,elemB k.p ((belN s a P:Nat):Int)=true:=fun a=>Yi hf (by omega) (by have:=Qb (s:=s) (a:=a) (n:=P) (by omega);omega);unfold Ys;exact ⟨Good.new hk hP (h1 _),Good.new hk hP (h1 _),Good.new hk hP (Yg hf _)⟩
end Go.Proofs.YthaadgdeadbhkaaGreat
