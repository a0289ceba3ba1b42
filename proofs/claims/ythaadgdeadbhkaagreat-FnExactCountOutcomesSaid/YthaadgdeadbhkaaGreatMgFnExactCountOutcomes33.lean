/-
 l06Tape and l28Zero of the reference.
-/
import Derived.Test.YthaadgdeadbhkaaGreatMgFnExactCountOutcomes32
open Go.RowKit
set_option linter.unusedVariables false
set_option linter.unusedSimpArgs false
namespace Go.Proofs.YthaadgdeadbhkaaGreat
attribute [local simp] depsC dstAt kAt bindE List.filter_cons Zz Zq Zr Zs ZA ZW puts dsts Act.put
theorem XQ (s a:Int) (w:World) :
  Calls Tryz.prog 41 #[.agg #[.int .i64 s,.int .i64 a]] w fun e w'=>e=.returned (.bool (tapeB s a&&!decide (900000<a)))∧w.grownBy w' none:=by
 go_enter Tryz.func41,Tryz.ntmps41
 go_wp2_with fail;refine (YO s a _).mono ?_;rintro e w1 ⟨rfl,g1⟩;have B1:=Blk.grow (Blk.new w 41 #[.int .i64 s,.int .i64 a]) g1;have c0:=B1.cell 0;have c1:=B1.cell 1;simp at c0 c1;have G1:=zH (gbT (gbA (gbR w none) _) g1);clear g1 B1
 cases hb:tapeB s a
 ·go_wp2_with fail
  go_ret;exact ⟨retB (by rw [hb];rfl),G1.out⟩
 ·obtain ⟨d,hd⟩:∃d,decide (a≤900000)=d:=⟨_,rfl⟩
  have HD:Hid ((true&&!decide (900000<a))=d):=by
   unfold Hid;rw [← hd,Bool.true_and,← decide_not];exact decide_eq_decide.mpr (by omega)
  go_wp2_with fail;go_ret;exact ⟨retB (by rw [hb];exact HD.out.symm),G1.out⟩
def rows2F (lo n:Nat) (v:Value) (w:World):Prop:=∃A c B d,v=.agg #[.slice A n c,.slice B n d]∧row1 lo n (List.replicate n 0) (.slice A n c) w∧row1 lo n (List.replicate n 0) (.slice B n d) w
theorem rows2F_st {lo n:Nat}:stable (rows2F lo n):=fun v w w' ⟨A,c,B,d,h1,h2,h3⟩ hg=>⟨A,c,B,d,h1,h2.grow hg,h3.grow hg⟩
set_option maxHeartbeats 2000000 in
set_option maxRecDepth 100000 in
theorem specl28Zero_c (n:Nat) (w:World) (hn:n≤1048576) :
  Calls Tryz.prog 91 #[.int .i64 n] w fun e w'=>∃v,e=.returned v∧zroF n v w'∧w.grownBy w' none:=by
 obtain ⟨w1,hw1⟩:∃y:World,w.alloc (.cells #[.slice none 0 0,.slice none 0 0] 80)=y:=⟨_,rfl⟩;have G1:Hid (w.grownBy w1 none):=by rw [← hw1];exact gbA (gbR _ _) _
 have z1:Hid (w1.heap.size=w.heap.size+1):=by rw [← hw1];exact zH (by simp)
 have D0:Hid (Blk w1 w.heap.size 80 #[.slice none 0 0,.slice none 0 0]):=by rw [← hw1];exact Blk.new w _ _
 obtain ⟨gR,hgR⟩:∃g,w.heap.size=g:=⟨_,rfl⟩;have hgl:gR<w1.heap.size:=by have:=z1.out;omega
 have hgw:w.heap.size≤gR:=by omega
 go_enter Tryz.func91,Tryz.ntmps91
 go_wp2_with fail;rw [hgR] at D0;clear hw1 hgR
 refine Zg [.rd (.int .i64 n),.fl (row1 w1.heap.size n (List.replicate n 0)),.rd (.int .i64 n),.fl (row1 w1.heap.size n (List.replicate n 0)),.fl (rows2F w1.heap.size n),.ch] (fun _=>False)
  [⟨[],fun _ w'=>w1.drew.grownBy w' none⟩,
   ⟨[],fun _ w'=>(∃A c B d,row1 w1.heap.size n (List.replicate n 0) (.slice A n c) w'∧row1 w1.heap.size n (List.replicate n 0) (.slice B n d) w'∧Blk w' gR 80 #[.slice A n c,.slice B n d])∧Chg (fun y=>y=gR) w1.drew w'⟩]
  (by kernel_rfl) (by kernel_rfl) (by kernel_rfl) 1 (by kernel_rfl) ?_ (gbR _ _) rfl ?_ ?_
 ·have hst:Zw [⟨[],fun _ w'=>w1.drew.grownBy w' none⟩,⟨[],fun _ w'=>(∃A c B d,row1 w1.heap.size n (List.replicate n 0) (.slice A n c) w'∧row1 w1.heap.size n (List.replicate n 0) (.slice B n d) w'∧Blk w' gR 80 #[.slice A n c,.slice B n d])∧Chg (fun y=>y=gR) w1.drew w'⟩]:=by
   refine Zc (fun l w1 w2 h hg=>gbT h hg) ?_;exact Zc (Zo fun l w1 w2 ⟨⟨A,c,B,d,h1,h2,h3⟩,h4⟩ hg=>⟨⟨A,c,B,d,h1.grow hg,h2.grow hg,h3.grow hg⟩,h4.trans (Chg.of hg (by simp))⟩) ZX
  simp only [flOk,true_and,and_true];exact ⟨⟨KO,hst⟩,⟨KO,hst⟩,⟨rows2F_st,hst⟩⟩
 ·simp only [hopsK,hopK,Kd.next,and_true]
  refine ⟨?_, ?_, ?_, ?_, ?_, ?_⟩;rotate_left 1
  ·intro f w4 hG hd
   have hg4:=gbT (gbD (gbR w1 none)) (chgF hG);have hz4:=hg4.size
   (try simp at hd)
   (first | simp [hd] | simp)
   clear hd
   go_wp2_with (at_make;refine XK _ ZZ rfl _ _ rfl n rfl rfl (by omega) (by unfold maxLen;omega) ?_;intro w6 o6 g6)
   rw [show (Value.int .i64 0).cells=#[.int .i64 0] from rfl,Vc] at o6;exact ⟨_,rfl,row1.of (L:=List.replicate n 0) (by rw [List.map_replicate];exact ZE o6 hz4),g6⟩
  rotate_left 1
  ·intro f w4 hG hd
   have hg4:=gbT (gbD (gbR w1 none)) (chgF hG);have hz4:=hg4.size
   (try simp at hd)
   (first | simp [hd] | simp)
   clear hd
   go_wp2_with (at_make;refine XK _ ZZ rfl _ _ rfl n rfl rfl (by omega) (by unfold maxLen;omega) ?_;intro w6 o6 g6)
   rw [show (Value.int .i64 0).cells=#[.int .i64 0] from rfl,Vc] at o6;exact ⟨_,rfl,row1.of (L:=List.replicate n 0) (by rw [List.map_replicate];exact ZE o6 hz4),g6⟩
  ·intro f w4 hG hd
   have hg4:=gbT (gbD (gbR w1 none)) (chgF hG);have hz4:=hg4.size
   (try simp at hd)
   obtain ⟨h1,h2⟩:=hd;obtain ⟨Aa,ca,ea,oa⟩:=h1;obtain ⟨Ab,cb,eb,ob⟩:=h2;rw [ea] at oa;rw [eb] at ob;simp [puts,dsts,Act.put,ea,eb];go_wp2_with fail;exact ⟨_,rfl,⟨_,_,_,_,rfl,row1.of oa,row1.of ob⟩,gbR _ _⟩
  ·intro f w4 hG hI hd
   have hg4:=gbT (gbD (gbR w1 none)) (chgF hG);have hz4:=hg4.size;have hI:w1.drew.grownBy w4 none:=hI
   (try simp at hd)
   obtain ⟨⟨A,c,B,d,e7,h1,h2⟩,-⟩:=hd;have R4:=D0.out.grow hg4;have f0:=R4.frozen 0;have f1:=R4.frozen 1;have b0:=R4.cell 0;have b1:=R4.cell 1;simp at b0 b1;have RS:=zH (Yf R4 (.slice A n c) (.slice B n d));have CH:=Za gR [.slice A n c,.slice B n d] 0 w4;have A1:=zH (row1_chg h1 CH hgl);have A2:=zH (row1_chg h2 CH hgl);have CS:=zH ((Chg.of (S:=fun y=>y=gR) hI (by simp)).trans CH);clear R4 h1 h2 hI CH;simp [puts,dsts,Act.put,e7];go_wp2_with fail;exact ⟨rfl,.bool false,⟨A,c,A1.out,B,d,A2.out,RS.out⟩,CS.out⟩
  all_goals
   intro f w4 hG hd;have hg4:=gbT (gbD (gbR w1 none)) (chgF hG)
   (try simp at hd)
   (first | simp [hd] | simp)
   clear hd;go_wp2_with fail;exact ⟨rfl,rfl⟩
 intro f w5 hI hd;simp only [puts,dsts,Act.put,zB,zC,zA,zD,zE];obtain ⟨⟨A,c,B,d,h1,h2,hB⟩,hC⟩:=hI;have G9:=zH (Zu (gbT G1.out (gbD (gbR w1 none))) hC hgw);obtain ⟨_,_,ea,oa⟩:=h1;obtain ⟨_,_,eb,ob⟩:=h2;have Z:=zH (zroF.of oa ob);have HB:=zH hB;clear hd hC ea eb oa ob hB;go_wp2_with fail;refine YJ Tryz.results91 (by rfl) stAuth (cs:=#[.slice A n c,.slice B n d]) HB.out (by rfl) (by rfl) ?_;exact ⟨_,rfl,Z.out,G9.out⟩
end Go.Proofs.YthaadgdeadbhkaaGreat
namespace Go.Proofs.YthaadgdeadbhkaaGreat
section
variable {P:Program}
theorem Qq (w:World) (t ty e:TypeId) (i:TypeInfo) (z:Value) (size bytes:Nat) (ht:P.underlying t=some (.slice e)) (hi:P.info? e=some i) (hz:i.zero=some z)
  (hsize:i.size=size) (hby:i.bytes=bytes) (hzs:z.cells.size=size) (hsz:0<size)
  (g:Nat) (hown:w.ownsRow 0 e size (.slice (some ⟨g,0,none⟩) 0 0) 0 [])
  (a:Addr) (m c:Nat) (news:List Value) (hl:news.length=m*size) (hnews:∀j u,news[j]?=some u→w.cell? (a.add j)=some u) (h1:∀u∈news,u.oneCell'=true)
  (h63:m≤maxLen) (hbytes:m*bytes≤140737488355328) :
  ∃v' w',(Builtin.append_ #[t,t] ty #[.slice (some ⟨g,0,none⟩) 0 0,.slice (some a) m c]).run P w=.ok v' w'∧w'.ownsRow 0 e size v' m news∧w.grownBy w' none∧(∀g',v'.ownBlock=some g'→g'=g∨(w.heap.size≤g'∧0<m)):=by
 subst hsize;subst hby
 rcases Nat.eq_zero_or_pos m with h0 | h0
 ·subst h0
  obtain rfl:news=[]:=List.eq_nil_of_length_eq_zero (by simpa using hl);have hr:=run_append_room_cells (P:=P) (w:=w) t ty e i ht hi g 0 0 0 a 0 c [] (by simp) (by simp) (by simp) (by simp) (by simp) (by simp);refine ⟨_,_,hr, ?_, ?_, ?_⟩
  ·exact hown
  ·exact gbR _ _
  ·intro g' hg'
   simp [Value.ownBlock] at hg';exact .inl hg'.symm
 ·obtain ⟨v',w',hr,ho,hgr,_⟩:=run_append_own w 0 t ty e i z i.size i.bytes ht hi hz rfl rfl hzs hsz _ 0 [] hown a m c news hl hnews h1 (by omega) (by simpa using hbytes) (Nat.zero_le _)
  have holds:∀j u,([]:List Value)[j]?=some u→w.cell? ((⟨g,0,none⟩:Addr).add j)=some u:=fun j u h=>by simp at h
  have hr2:=run_append_grow (P:=P) w t ty e i z ht hi hz ⟨g,0,none⟩ 0 0 [] (by simp) holds a m c news hl hnews (by omega) (by simp only [maxLen] at h63;omega) (growslice_fits (by omega) (by simpa using hbytes));rw [hr] at hr2;injection hr2 with e1 e2;subst e2;refine ⟨_,_,hr,by simpa using ho,gbA (gbD (gbR _ _)) _,fun g' hg'=>.inr ⟨?_,h0⟩⟩;subst e1;simp [Value.ownBlock] at hg';omega
variable {ops:Array Oper} {rest:List Oper} {o:Oper} {a:Act} {Q:Exit→Act→World→Prop}
theorem Qr (wr:World) {t e:TypeId} {z:Value} {size bytes:Nat} (E:El P t e z size bytes) (hgd:o.guard=none) (s x:Operand)
  (ho:o.op=.call { callee:=.builtin .append,args:=#[s,x],argTypes:=#[t,t] })
  (g:Nat) (hown:wr.ownsRow 0 e size (.slice (some ⟨g,0,none⟩) 0 0) 0 []) (hs:a.eval s=.slice (some ⟨g,0,none⟩) 0 0) (A:Option Addr) (m c:Nat) (ys:List Value) (hx:a.eval x=.slice A m c) (hr:Rd wr size A m ys) (h1:∀u∈ys,u.oneCell'=true)
  (hn:m≤maxLen) (hb:m*bytes≤140737488355328)
  (h:∀v' w',w'.ownsRow 0 e size v' m ys→wr.grownBy w' none→(∀g',v'.ownBlock=some g'→g'=g∨(wr.heap.size≤g'∧0<m))→wpList P ops Q rest (a.put o.dst v') w') :
  wpList P ops Q (o :: rest) a wr:=by
 obtain ⟨i,hi,hz0,hz1,hz2⟩:=info_parts E.hi
 have key:∀ad:Addr,A=some ad→(∀j u,ys[j]?=some u→wr.cell? (ad.add j)=some u)→wpList P ops Q (o :: rest) a wr:=fun ad hA hc=>by
  obtain ⟨v',w',hr,h2,h3,h4⟩:=Qq (P:=P) wr t o.type e i z size bytes E.ht hi hz0 hz1 hz2 E.hz E.hs g hown ad m c ys hr.1 hc h1 hn hb;refine wpList_plain hgd fun _ hK => ?_;unfold Oper.wp execOp;simp only [ho,resolve,invoke,builtin,Sem.run_bind,Sem.run_pure,Result.andThen_ok,List.map_toArray,List.map_cons,List.map_nil,hs,hx,hA,hr];exact hK _ _ (h v' w' h2 h3 h4)
 rcases Nat.eq_zero_or_pos m with h0 | h0
 ·subst h0
  have hys:ys=[]:=List.eq_nil_of_length_eq_zero (by simpa using hr.1);subst hys
  cases A with
  | some ad=>exact key ad rfl fun j u hu=>by simp at hu
  | none =>
   refine wpList_plain hgd fun _ hK => ?_;have hrun:=Xs (P:=P) wr 0 t o.type e i size E.ht hi _ 0 [] hown c;unfold Oper.wp execOp;simp only [ho,resolve,invoke,builtin,Sem.run_bind,Sem.run_pure,Result.andThen_ok,List.map_toArray,List.map_cons,List.map_nil,hs,hx,hrun];exact hK _ _ (h _ wr hown (gbR _ _) fun g' hg=>.inl (by simp [Value.ownBlock] at hg;exact hg.symm))
 ·obtain ⟨b,off,hA,hb',hc⟩:=hr.2 h0
  refine key ⟨b,off,none⟩ hA fun j u hu => ?_;have hadd:(⟨b,off,none⟩:Addr).add j=⟨b,off+j,none⟩:=by unfold Addr.add;split <;> simp_all
  have hj:j<m*size:=by rw [← hr.1];exact (List.getElem?_eq_some_iff.1 hu).1
  rw [hadd,hc j hj,hu]
end
def autV (lo:Nat) (m:AuM) (v:Value) (w:World):Prop:=∃A n c B k d,v=.agg #[.slice A n c,.slice B k d]∧autF lo m (.agg #[.slice A n c,.slice B k d]) w
theorem autV_st {lo:Nat} {m:AuM}:stable (autV lo m):=fun v w w' ⟨A,n,c,B,k,d,h1,h2⟩ hg=>⟨A,n,c,B,k,d,h1,h2.grow hg⟩
def emptyS (lo:Nat) (v:Value) (w:World):Prop:=∃g,v=.slice (some ⟨g,0,none⟩) 0 0∧lo≤g∧Blk w g 3 #[]∧w.ownsRow 0 3 1 (.slice (some ⟨g,0,none⟩) 0 0) 0 []
theorem emptyS_st {lo:Nat}:stable (emptyS lo):=fun v w w' ⟨g,h1,h2,h3,h4⟩ hg=>⟨g,h1,h2,h3.grow hg,Zj h4 hg⟩
theorem row2.grow {lo n m:Nat} {L M:List Int} {v u:Value} {w w':World} (h:row2 lo n m L M v u w) (hg:w.grownBy w' none):row2 lo n m L M v u w':=⟨h.1.grow hg,h.2.1.grow hg,h.2.2⟩
section
variable {lo gK gR n k:Nat} {s m:Value} {L M:List Int}
end
attribute [local simp] depsC dstAt kAt bindE List.filter_cons Zz Zq Zr Zs ZA ZW
def emptyT (lo:Nat) (T:TypeId) (s:Nat) (v:Value) (w:World):Prop:=∃g,v=.slice (some ⟨g,0,none⟩) 0 0∧lo≤g∧w.ownsRow 0 T s (.slice (some ⟨g,0,none⟩) 0 0) 0 []
theorem Va {lo:Nat} {T:TypeId} {s:Nat}:stable (emptyT lo T s):=fun v w w' ⟨g,h1,h2,h4⟩ hg=>⟨g,h1,h2,Zj h4 hg⟩
theorem ownL_typ2 {lo:Nat} {L:List (Int × Int × Int)} {M:List Int} {v u:Value} {w:World} (h:ownF lo (csteps L) v w) (k:ownF lo (cints M) u w):ownL lo [csteps L,cints M] [v,u] w:=by
 obtain ⟨F,h1,h2⟩:=h;obtain ⟨G,k1,k2⟩:=k;refine ⟨[F,G],OwnAll.cons h1 (OwnAll.cons k1 (OwnAll.nil _) (by simp)) (fun g hg hg' => ?_),fun x hx => ?_⟩
 ·have hg':g∈G:=by simpa using hg'
  obtain ⟨c1,T1,z1,e1,t1⟩:=Xd (Ts:=[102]) (by simp) w F v h1 g hg;obtain ⟨c2,T2,z2,e2,t2⟩:=Xd (Ts:=[3]) (by simp) w G u k1 g hg';rw [e1] at e2;injection e2 with e2;injection e2 with _ e3 _;simp at t1 t2;rw [t1,t2] at e3;exact absurd e3 (by decide)
 ·simp only [List.flatten_cons,List.flatten_nil,List.append_nil,List.mem_append] at hx
  rcases hx with hx | hx
  ·exact h2 x hx
  ·exact k2 x hx
set_option maxHeartbeats 2000000 in
set_option maxRecDepth 100000 in
theorem specl28Keys_c (k:KM) (kv:Value) (w0:World) (h:AggR w0 (ckeys k) kv) (wk:kwf k) :
  Calls Tryz.prog 87 #[kv] w0 fun e w'=>∃v,e=.returned v∧aggF w0.heap.size (ckeys k) v w'∧w0.grownBy w' none:=by
 obtain ⟨A,c,rfl,hc,hm,hI⟩:=ZG h;obtain ⟨w1,hw1⟩:∃x:World,((w0.alloc (.cells #[.int .i64 k.p,.slice A k.al.length c] 34)).alloc (.cells #[.int .i64 0,.slice none 0 0] 34))=x:=⟨_,rfl⟩;have GW:Hid (w0.grownBy w1 none):=by rw [← hw1];exact gbA (gbA (gbR _ _) _) _
 have z1:Hid (w1.heap.size=w0.heap.size+2):=by rw [← hw1];exact zH (by simp)
 have D1:Hid (Blk w1 w0.heap.size 34 #[.int .i64 k.p,.slice A k.al.length c]):=by rw [← hw1];exact (Blk.new w0 _ _).grow (gbA (gbR _ _) _)
 have D3:Hid (Blk w1 (w0.heap.size+1) 34 #[.int .i64 0,.slice none 0 0]):=by rw [← hw1];exact Blk.new' _ _ _ _ (by simp)
 have IS:=zH (hI.grow GW.out);have WK:=zH wk.2;clear h hI wk
 go_enter Tryz.func87,Tryz.ntmps87
 go_wp2_with fail;clear hw1;have hlz:w0.heap.size+2≤w1.heap.size:=by have:=z1.out;omega
 have d0:=D1.out.cell 0;have d1:=D1.out.cell 1;simp at d0 d1
 refine Zg [.rd (.pointer (some ⟨w0.heap.size,0,none⟩)),.rd (.int .i64 k.p),.fl (emptyS (w0.heap.size+2)),.rd (.pointer (some ⟨w0.heap.size,1,none⟩)),.rd (.slice A k.al.length c),.ch,.ch,.ch] (fun _=>False)
  [⟨[],fun _ w'=>w1.drew.grownBy w' none⟩,
   ⟨[8],fun l w'=>ownF (w0.heap.size+2) (cints k.al) (l.getD 0 undef) w'⟩,
   ⟨[9],fun l w'=>aggF (w0.heap.size+2) (ckeys k) (l.getD 0 undef) w'⟩,
   ⟨[],fun _ w'=>∃F,SOF 34 (ckeys k) (w0.heap.size+1) F w'∧(∀x∈F,w0.heap.size≤x)∧w0.grownBy w' none⟩]
  (by kernel_rfl) (by kernel_rfl) (by kernel_rfl) 3 (by kernel_rfl) ?_ (gbR _ _) rfl ?_ ?_
 ·have hst:Zw [⟨[],fun _ w'=>w1.drew.grownBy w' none⟩,⟨[8],fun l w'=>ownF (w0.heap.size+2) (cints k.al) (l.getD 0 undef) w'⟩,⟨[9],fun l w'=>aggF (w0.heap.size+2) (ckeys k) (l.getD 0 undef) w'⟩,⟨[],fun _ w'=>∃F,SOF 34 (ckeys k) (w0.heap.size+1) F w'∧(∀x∈F,w0.heap.size≤x)∧w0.grownBy w' none⟩]:=by
   refine Zc (fun l w1 w2 h hg=>gbT h hg) ?_;refine Zc (Zo fun l w1 w2 h hg=>ownF.grow h hg) ?_;refine Zc (Zo fun l w1 w2 h hg=>aggF.grow h hg) ?_;exact Zc (Zo fun l w1 w2 ⟨F,h1,h2,h3⟩ hg=>⟨F,h1.grow hg,h2,gbT h3 hg⟩) ZX
  simp only [flOk,true_and,and_true];exact ⟨emptyS_st,hst⟩
 ·simp only [hopsK,hopK,Kd.next,and_true]
  refine ⟨?_, ?_, ?_, ?_, ?_, ?_, ?_, ?_⟩;rotate_left 2
  ·intro f w4 hG hd
   have hg4:=gbT (gbD (gbR w1 none)) (chgF hG);have hz4:=hg4.size;clear hd;simp [puts,dsts,Act.put];go_wp2_with fail;exact ⟨_,rfl,⟨w4.heap.size,rfl,by omega,Blk.new _ _ _,World.ownsRow_made w4 #[] 0 (Nat.zero_le _) (by simp) rfl⟩,gbA (gbR _ _) _⟩
  rotate_left 2
  ·intro f w4 hG hI hd
   have hg4:=gbT (gbD (gbR w1 none)) (chgF hG);have hz4:=hg4.size;have I4:=zH (IS.out.grow hg4)
   (try simp at hd)
   obtain ⟨⟨g3,e3,hg3,B3,O3⟩,e7⟩:=hd;simp [puts,dsts,Act.put,e3,e7]
   go_wp2_with (at_builtin;refine Qr w4 ZZ rfl (.tmp 5) (.tmp 7) rfl g3 O3 rfl A k.al.length c _ rfl I4.out (by simp [Value.oneCell']) (by have:=WK.out;unfold maxLen;omega) (by have:=WK.out;omega) ?_;intro v6 w6 o6 g6 n6)
   have O6:=zH (ownF.ints (lo:=w0.heap.size+2) (Wz o6 (fun g hg=>(n6 g hg).elim (fun h=>by omega) (fun h=>by have:=h.1;omega))));have G6:=zH g6;clear o6 g6 n6;exact ⟨_,rfl,O6.out,⟨Chg.of G6.out (by simp),by simp [keepsC,dstAt];exact fun h=>emptyS_st _ _ _ h G6.out⟩⟩
  ·intro f w4 hG hI hd
   have hg4:=gbT (gbD (gbR w1 none)) (chgF hG);have hz4:=hg4.size;obtain ⟨F,o7,l7⟩:=hI;have o7:(cints k.al).own w4 F (f 8):=o7;obtain ⟨B1,n1,c1,e7⟩:=ZV o7;rw [e7] at o7
   (try simp at hd)
   simp [puts,dsts,Act.put,hd,e7];clear hd;go_wp2_with fail;exact ⟨_,rfl,⟨_,ckeys_omk o7,fun x hx=>l7 x (by simpa using hx)⟩,⟨Chg.refl _ _,by simp [keepsC,dstAt]⟩⟩
  ·intro f w4 hG hI hd
   have hg4:=gbT (gbD (gbR w1 none)) (chgF hG);have hz4:=hg4.size;obtain ⟨F,o8,l8⟩:=hI;have o8:AggO w4 (ckeys k) F (f 9):=o8;obtain ⟨B1,n1,c1,e8⟩:=Uh o8;rw [e8] at o8;have R4:=D3.out.grow hg4;have f0:=R4.frozen 0;have f1:=R4.frozen 1;have b0:=R4.cell 0;have b1:=R4.cell 1;simp at b0 b1;have RS:=zH (SOF.store R4 (us:=[.int .i64 k.p,.slice B1 n1 c1]) rfl o8 (fun hx=>by have:=l8 _ hx;omega));have GS:=zH (Zu (gbT GW.out hg4) (Za (w0.heap.size+1) [.int .i64 k.p,.slice B1 n1 c1] 0 w4) (by omega))
   (try simp at hd)
   simp [puts,dsts,Act.put,hd,e8];clear hd R4;go_wp2_with fail;exact ⟨rfl,.bool false,F,RS.out,fun x hx=>by have:=l8 x hx;omega,GS.out⟩
  all_goals
   intro f w4 hG hd;have hg4:=gbT (gbD (gbR w1 none)) (chgF hG);have k0:=gbk hg4 (d0);have k1:=gbk hg4 (d1)
   (try simp at hd)
   (first | simp [puts,dsts,Act.put,hd] | simp [puts,dsts,Act.put])
   clear hd;go_wp2_with fail;exact ⟨rfl,rfl⟩
 intro f w9 hI hd;simp only [puts,dsts,Act.put,zB,zC,zA,zD,zE];obtain ⟨F,hS,hl,hG⟩:=hI;obtain ⟨vs,hB,hA⟩:=hS.agg;have HA:=zH hA;have HL:=zH hl;have HG:=zH hG;clear hd hS hA hl hG d0 d1;go_wp2_with fail;refine YJ Tryz.results87 (by rfl) stKeys (cs:=vs.toArray) hB (by rw [List.size_toArray];exact Vi HA.out) (by rfl) ?_;exact ⟨_,rfl,⟨F,HA.out,HL.out⟩,HG.out⟩
set_option maxHeartbeats 2000000 in
set_option maxRecDepth 100000 in
theorem specl28Arith_c (m:AM) (v:Value) (w0:World) (h:AggR w0 (carith m) v) (wm:amwf m) :
  Calls Tryz.prog 88 #[v] w0 fun e w'=>∃v,e=.returned v∧aggF w0.heap.size (carith m) v w'∧w0.grownBy w' none:=by
 obtain ⟨u1,u2,rfl,h1,h2⟩:=Zt h;obtain ⟨A,c,rfl,hc,hm,hF⟩:=ZP (s:=3) (fun _=>rfl) (by omega) h1;obtain ⟨B,d,rfl,hd1,hm2,hJ⟩:=Zx h2;obtain ⟨w1,hw1⟩:∃x:World,((w0.alloc (.cells #[.int .i64 m.p,.slice A m.st.length c,.slice B m.outs.length d] 38)).alloc (.cells #[.int .i64 0,.slice none 0 0,.slice none 0 0] 38))=x:=⟨_,rfl⟩;have GW:Hid (w0.grownBy w1 none):=by rw [← hw1];exact gbA (gbA (gbR _ _) _) _
 have z1:Hid (w1.heap.size=w0.heap.size+2):=by rw [← hw1];exact zH (by simp)
 have D1:Hid (Blk w1 w0.heap.size 38 #[.int .i64 m.p,.slice A m.st.length c,.slice B m.outs.length d]):=by rw [← hw1];exact (Blk.new w0 _ _).grow (gbA (gbR _ _) _)
 have D3:Hid (Blk w1 (w0.heap.size+1) 38 #[.int .i64 0,.slice none 0 0,.slice none 0 0]):=by rw [← hw1];exact Blk.new' _ _ _ _ (by simp)
 have IF:=zH (FL.grow hF GW.out);have IJ:=zH (hJ.grow GW.out);have WM:=zH wm;clear h h1 h2 hF hJ wm
 go_enter Tryz.func88,Tryz.ntmps88
 go_wp2_with fail;clear hw1;have hlz:w0.heap.size+2≤w1.heap.size:=by have:=z1.out;omega
 have d0:=D1.out.cell 0;have d1:=D1.out.cell 1;have d2:=D1.out.cell 2;simp at d0 d1 d2
 refine Zg [.rd (.pointer (some ⟨w0.heap.size,0,none⟩)),.rd (.int .i64 m.p),.fl (emptyT (w0.heap.size+2) 102 3),.rd (.pointer (some ⟨w0.heap.size,1,none⟩)),.rd (.slice A m.st.length c),.ch,.fl (emptyT (w0.heap.size+2) 3 1),.rd (.pointer (some ⟨w0.heap.size,2,none⟩)),.rd (.slice B m.outs.length d),.ch,.ch,.ch] (fun _=>False)
  [⟨[],fun _ w'=>w1.drew.grownBy w' none⟩,
   ⟨[8],fun l w'=>ownF (w0.heap.size+2) (csteps m.st) (l.getD 0 undef) w'⟩,
   ⟨[8,12],fun l w'=>ownL (w0.heap.size+2) [csteps m.st,cints m.outs] [l.getD 0 undef,l.getD 1 undef] w'⟩,
   ⟨[13],fun l w'=>aggF (w0.heap.size+2) (carith m) (l.getD 0 undef) w'⟩,
   ⟨[],fun _ w'=>∃F,SOF 38 (carith m) (w0.heap.size+1) F w'∧(∀x∈F,w0.heap.size≤x)∧w0.grownBy w' none⟩]
  (by kernel_rfl) (by kernel_rfl) (by kernel_rfl) 4 (by kernel_rfl) ?_ (gbR _ _) rfl ?_ ?_
 ·have hst:Zw [⟨[],fun _ w'=>w1.drew.grownBy w' none⟩,⟨[8],fun l w'=>ownF (w0.heap.size+2) (csteps m.st) (l.getD 0 undef) w'⟩,⟨[8,12],fun l w'=>ownL (w0.heap.size+2) [csteps m.st,cints m.outs] [l.getD 0 undef,l.getD 1 undef] w'⟩,⟨[13],fun l w'=>aggF (w0.heap.size+2) (carith m) (l.getD 0 undef) w'⟩,⟨[],fun _ w'=>∃F,SOF 38 (carith m) (w0.heap.size+1) F w'∧(∀x∈F,w0.heap.size≤x)∧w0.grownBy w' none⟩]:=by
   refine Zc (fun l w1 w2 h hg=>gbT h hg) ?_;refine Zc (Zo fun l w1 w2 h hg=>ownF.grow h hg) ?_;refine Zc (Zo fun l w1 w2 h hg=>ownL.grow h hg) ?_;refine Zc (Zo fun l w1 w2 h hg=>aggF.grow h hg) ?_;exact Zc (Zo fun l w1 w2 ⟨F,h1,h2,h3⟩ hg=>⟨F,h1.grow hg,h2,gbT h3 hg⟩) ZX
  simp only [flOk,true_and,and_true];exact ⟨⟨Va,hst⟩,⟨Va,hst⟩⟩
 ·simp only [hopsK,hopK,Kd.next,and_true]
  refine ⟨?_, ?_, ?_, ?_, ?_, ?_, ?_, ?_, ?_, ?_, ?_, ?_⟩;rotate_left 2
  ·intro f w4 hG hd
   have hg4:=gbT (gbD (gbR w1 none)) (chgF hG);have hz4:=hg4.size;clear hd;simp [puts,dsts,Act.put];go_wp2_with fail;exact ⟨_,rfl,⟨w4.heap.size,rfl,by omega,World.ownsRow_made w4 #[] 0 (Nat.zero_le _) (by simp) rfl⟩,gbA (gbR _ _) _⟩
  rotate_left 2
  ·intro f w4 hG hI hd
   have hg4:=gbT (gbD (gbR w1 none)) (chgF hG);have hz4:=hg4.size;have I4:=zH (FL.grow IF.out hg4)
   (try simp at hd)
   obtain ⟨⟨g3,e3,hg3,O3⟩,e7⟩:=hd;simp [puts,dsts,Act.put,e3,e7]
   go_wp2_with (at_builtin;refine Qr w4 elStep rfl (.tmp 5) (.tmp 7) rfl g3 O3 rfl A m.st.length c _ rfl I4.out.rd (fun u hu=>by obtain ⟨x,_,hx⟩:=List.mem_flatMap.1 hu;exact Ku x u hx) (by have:=WM.out.st;unfold maxLen;omega) (by have:=WM.out.st;omega) ?_;intro v6 w6 o6 g6 n6)
   have O6:Hid (ownF (w0.heap.size+2) (csteps m.st) v6 w6):=zH ⟨_,Vf (s:=3) (fun _=>rfl) (by omega) Ku o6,fun x hx=>by
    rcases n6 x (by simpa using hx) with h6 | h6
    ·omega
    ·have:=h6.1;omega⟩
   have G6:=zH g6;clear o6 g6 n6;exact ⟨_,rfl,O6.out,⟨Chg.of G6.out (by simp),by simp [keepsC,dstAt];exact ⟨fun h=>Va _ _ _ h G6.out,fun h=>Va _ _ _ h G6.out⟩⟩⟩
  ·intro f w4 hG hd
   have hg4:=gbT (gbD (gbR w1 none)) (chgF hG);have hz4:=hg4.size;clear hd;simp [puts,dsts,Act.put];go_wp2_with fail;exact ⟨_,rfl,⟨w4.heap.size,rfl,by omega,World.ownsRow_made w4 #[] 0 (Nat.zero_le _) (by simp) rfl⟩,gbA (gbR _ _) _⟩
  rotate_left 2
  ·intro f w4 hG hI hd
   have hg4:=gbT (gbD (gbR w1 none)) (chgF hG);have hz4:=hg4.size;have H8:Hid (ownF (w0.heap.size+2) (csteps m.st) (f 8) w4):=hI;clear hI;have I4:=zH (IJ.out.grow hg4)
   (try simp at hd)
   obtain ⟨⟨g3,e3,hg3,O3⟩,e7⟩:=hd;simp [puts,dsts,Act.put,e3,e7]
   go_wp2_with (at_builtin;refine Qr w4 ZZ rfl (.tmp 9) (.tmp 11) rfl g3 O3 rfl B m.outs.length d _ rfl I4.out (by simp [Value.oneCell']) (by have:=WM.out.outs;unfold maxLen;omega) (by have:=WM.out.outs;omega) ?_;intro v6 w6 o6 g6 n6)
   have o7:ownF (w0.heap.size+2) (cints m.outs) v6 w6:=ownF.ints (lo:=w0.heap.size+2) (Wz o6 (fun g hg=>(n6 g hg).elim (fun h=>by omega) (fun h=>by have:=h.1;omega)));have O6:=zH (ownL_typ2 (H8.out.grow g6) o7);have G6:=zH g6;clear o6 g6 n6 o7;exact ⟨_,rfl,O6.out,⟨Chg.of G6.out (by simp),by simp [keepsC,dstAt];exact ⟨fun h=>Va _ _ _ h G6.out,fun h=>Va _ _ _ h G6.out⟩⟩⟩
  ·intro f w4 hG hI hd
   have hg4:=gbT (gbD (gbR w1 none)) (chgF hG);have hz4:=hg4.size;have o7:ownL (w0.heap.size+2) [csteps m.st,cints m.outs] [f 8,f 12] w4:=hI;obtain ⟨F9,o9,l9⟩:=(o7.pl (x:=.int .i64 m.p) rfl).agg;obtain ⟨A1,n1,s1,A2,n2,s2,e⟩:=YH o9;injection e with e;injection e with e;injection e with _ e;injection e with e8 e;injection e with e11 _;rw [e8,e11] at o9
   (try simp at hd)
   simp [puts,dsts,Act.put,hd,e8,e11];clear hd;go_wp2_with fail;exact ⟨_,rfl,⟨F9,o9,l9⟩,⟨Chg.refl _ _,by simp [keepsC,dstAt]⟩⟩
  ·intro f w4 hG hI hd
   have hg4:=gbT (gbD (gbR w1 none)) (chgF hG);have hz4:=hg4.size;obtain ⟨F,o8,l8⟩:=hI;have o8:AggO w4 (carith m) F (f 13):=o8;obtain ⟨A1,n1,s1,A2,n2,s2,e8⟩:=YH o8;rw [e8] at o8;have R4:=D3.out.grow hg4;have f0:=R4.frozen 0;have f1:=R4.frozen 1;have f2:=R4.frozen 2;have b0:=R4.cell 0;have b1:=R4.cell 1;have b2:=R4.cell 2;simp at b0 b1 b2;have RS:=zH (SOF.store R4 (us:=[.int .i64 m.p,.slice A1 n1 s1,.slice A2 n2 s2]) rfl o8 (fun hx=>by have:=l8 _ hx;omega));have GS:=zH (Zu (gbT GW.out hg4) (Za (w0.heap.size+1) [.int .i64 m.p,.slice A1 n1 s1,.slice A2 n2 s2] 0 w4) (by omega))
   (try simp at hd)
   simp [puts,dsts,Act.put,hd,e8];clear hd R4;go_wp2_with fail;exact ⟨rfl,.bool false,F,RS.out,fun x hx=>by have:=l8 x hx;omega,GS.out⟩
  all_goals
   intro f w4 hG hd;have hg4:=gbT (gbD (gbR w1 none)) (chgF hG);have k0:=gbk hg4 (d0);have k1:=gbk hg4 (d1);have k2:=gbk hg4 (d2)
   (try simp at hd)
   (first | simp [puts,dsts,Act.put,hd] | simp [puts,dsts,Act.put])
   clear hd;go_wp2_with fail;exact ⟨rfl,rfl⟩
 intro f w9 hI hd;simp only [puts,dsts,Act.put,zB,zC,zA,zD,zE];obtain ⟨F,hS,hl,hG⟩:=hI;obtain ⟨vs,hB,hA⟩:=hS.agg;have HA:=zH hA;have HL:=zH hl;have HG:=zH hG;clear hd hS hA hl hG d0 d1 d2;go_wp2_with fail;refine YJ Tryz.results88 (by rfl) stArith (cs:=vs.toArray) hB (by rw [List.size_toArray];exact Vi HA.out) (by rfl) ?_;exact ⟨_,rfl,⟨F,HA.out,HL.out⟩,HG.out⟩
end Go.Proofs.YthaadgdeadbhkaaGreat
namespace Go.Proofs.YthaadgdeadbhkaaGreat
set_option maxHeartbeats 4000000 in
set_option maxRecDepth 100000 in
theorem QP (k:KM) (c:AM) (I:Option Addr) (ni ci:Nat) (ins:List Int) (s a:Int) (kv cv:Value) (w0:World) (h:AggR w0 (ckeys k) kv) (hc:AggR w0 (carith c) cv) (hi:Ints w0 I ni ins) (wk:kwf k) (wc:amwf c) (hn:ni≤1048576) (hs:i64w a) (hb:newB k c ins s a=false) :
  Calls Tryz.prog 39 #[kv,cv,.slice I ni ci,.agg #[.int .i64 s,.int .i64 a]] w0 fun e w'=>e=.returned (.tuple #[.agg #[.int .i64 0,.slice none 0 0,.int .i64 0,.slice none 0 0,.slice none 0 0,.slice none 0 0,.slice none 0 0,.int .i64 0,.bool false],.bool false])∧w0.grownBy w' none:=by
 obtain ⟨KA,kc,rfl,_,_,_⟩:=ZG h;obtain ⟨u1,u2,rfl,c1,c2⟩:=Zt hc;obtain ⟨A1,n1,rfl,_,_,_⟩:=ZP (s:=3) (fun _=>rfl) (by omega) c1;obtain ⟨A2,n2,rfl,_,_,_⟩:=Zx c2;obtain ⟨w1,hw1⟩:∃y:World,(((w0.alloc (.cells #[.int .i64 k.p,.slice KA k.al.length kc] 34)).alloc (.cells #[.int .i64 c.p,.slice A1 c.st.length n1,.slice A2 c.outs.length n2] 38)).alloc (.cells #[.int .i64 s,.int .i64 a] 41)).alloc (.cells #[.int .i64 0,.slice none 0 0,.int .i64 0,.slice none 0 0,.slice none 0 0,.slice none 0 0,.slice none 0 0,.int .i64 0,.bool false] 58)=y:=⟨_,rfl⟩;have GB:Hid (w0.grownBy w1 none):=by rw [← hw1];exact gbA (gbA (gbA (gbA (gbR _ _) _) _) _) _
 have D0:Hid (Blk w1 w0.heap.size 34 #[.int .i64 k.p,.slice KA k.al.length kc]):=by rw [← hw1];exact (((Blk.new w0 _ _).grow (gbA (gbR _ _) _)).grow (gbA (gbR _ _) _)).grow (gbA (gbR _ _) _)
 have D1:Hid (Blk w1 (w0.heap.size+1) 38 #[.int .i64 c.p,.slice A1 c.st.length n1,.slice A2 c.outs.length n2]):=by rw [← hw1];exact ((Blk.new' _ _ _ _ (by simp)).grow (gbA (gbR _ _) _)).grow (gbA (gbR _ _) _)
 have D2:Hid (Blk w1 (w0.heap.size+1+1) 41 #[.int .i64 s,.int .i64 a]):=by rw [← hw1];exact (Blk.new' _ _ _ _ (by simp)).grow (gbA (gbR _ _) _)
 have D8:Hid (Blk w1 (w0.heap.size+1+1+1) 58 #[.int .i64 0,.slice none 0 0,.int .i64 0,.slice none 0 0,.slice none 0 0,.slice none 0 0,.slice none 0 0,.int .i64 0,.bool false]):=by rw [← hw1];exact Blk.new' _ _ _ _ (by simp)
 have HK:=zH (AggR.grow h GB.out);have HC:=zH (AggR.grow hc GB.out);have HI:=zH (hi.grow GB.out);have HL:=zH hi.len;have WK:=zH wk;have WC:=zH wc;have HB:Hid (newB k c ins s a=(keysB k&&arithB c&&(k.p == c.p)&&((ins.length:Int) == 60)&&elemsB c.p ins&&tapeB s a&&!decide (900000<a))):=rfl;rw [hb] at HB;clear h hc hi wk wc c1 c2 hb;have hcp:=WK.out.1;obtain ⟨hcp1,hcp2⟩:=hcp;obtain ⟨hs1,hs2⟩:=hs
 go_enter Tryz.func39,Tryz.ntmps39
 have k0:=D0.out.cell 0;have k1:=D0.out.cell 1;have x0:=D1.out.cell 0;have x1:=D1.out.cell 1;have x2:=D1.out.cell 2;have y0:=D2.out.cell 0;have y1:=D2.out.cell 1;simp at k0 k1 x0 x1 x2 y0 y1;go_wp2_with fail;obtain ⟨gR,hgR'⟩:∃g,w0.heap.size+1+1+1=g:=⟨_,rfl⟩;have hgR:w0.heap.size≤gR:=by omega
 rw [hgR'] at D8 ⊢;clear hgR' hw1 k0 k1 x0 x1 x2 y0 y1;refine (YP k _ _ HK.out WK.out).mono ?_;rintro e w2 ⟨rfl,g2⟩
 cases b1:keysB k
 ·skip
  have GZ:=gbT GB.out (g2);have RZ:=D8.out.grow (g2);obtain ⟨f0,f1,f2,f3,f4,f5,f6,f7,f8⟩:=RZ.f9;obtain ⟨b0,b1,b2,b3,b4,b5,b6,b7,b8⟩:=RZ.c9;have RS:=Zd RZ eng0L rfl;have GS:=Zu GZ (Za gR eng0L 0 _) hgR;simp only [Zm,eng0L,Nat.zero_add,Nat.reduceAdd] at RS GS;have RS:=zH RS;have GS:=zH GS;clear RZ GZ;go_wp2_with fail;refine Xq Tryz.results39 (by rfl) Yu (cs:=#[.int .i64 0,.slice none 0 0,.int .i64 0,.slice none 0 0,.slice none 0 0,.slice none 0 0,.slice none 0 0,.int .i64 0,.bool false]) RS.out (by rfl) (by rfl) ?_;exact ⟨rfl,GS.out⟩
 have x0:=(D1.out.grow g2).cell 0;have x1:=(D1.out.grow g2).cell 1;have x2:=(D1.out.grow g2).cell 2;simp at x0 x1 x2;have G2:=zH g2;clear g2;go_wp2_with fail;clear x0 x1 x2;refine (Yd c _ _ (AggR.grow HC.out G2.out) WC.out.wf).mono ?_;rintro e w3 ⟨rfl,g3⟩;have g3:=gbT G2.out g3;clear G2
 cases b2:arithB c
 ·skip
  have GZ:=gbT GB.out (g3);have RZ:=D8.out.grow (g3);obtain ⟨f0,f1,f2,f3,f4,f5,f6,f7,f8⟩:=RZ.f9;obtain ⟨b0,b1,b2,b3,b4,b5,b6,b7,b8⟩:=RZ.c9;have RS:=Zd RZ eng0L rfl;have GS:=Zu GZ (Za gR eng0L 0 _) hgR;simp only [Zm,eng0L,Nat.zero_add,Nat.reduceAdd] at RS GS;have RS:=zH RS;have GS:=zH GS;clear RZ GZ;go_wp2_with fail;refine Xq Tryz.results39 (by rfl) Yu (cs:=#[.int .i64 0,.slice none 0 0,.int .i64 0,.slice none 0 0,.slice none 0 0,.slice none 0 0,.slice none 0 0,.int .i64 0,.bool false]) RS.out (by rfl) (by rfl) ?_;exact ⟨rfl,GS.out⟩
 have G3:=zH g3;have k0:=(D0.out.grow g3).cell 0;have x0:=(D1.out.grow g3).cell 0;simp at k0 x0
 cases b3:(k.p == c.p)
 ·have n3:(k.p != c.p)=true:=by rw [bne,b3];rfl
  clear b3;have GZ:=gbT GB.out (g3);have RZ:=D8.out.grow (g3);obtain ⟨f0,f1,f2,f3,f4,f5,f6,f7,f8⟩:=RZ.f9;obtain ⟨b0,b1,b2,b3,b4,b5,b6,b7,b8⟩:=RZ.c9;have RS:=Zd RZ eng0L rfl;have GS:=Zu GZ (Za gR eng0L 0 _) hgR;simp only [Zm,eng0L,Nat.zero_add,Nat.reduceAdd] at RS GS;have RS:=zH RS;have GS:=zH GS;clear RZ GZ;go_wp2_with fail;refine Xq Tryz.results39 (by rfl) Yu (cs:=#[.int .i64 0,.slice none 0 0,.int .i64 0,.slice none 0 0,.slice none 0 0,.slice none 0 0,.slice none 0 0,.int .i64 0,.bool false]) RS.out (by rfl) (by rfl) ?_;exact ⟨rfl,GS.out⟩
 have n3:(k.p != c.p)=false:=by rw [bne,b3];rfl
 have HPP:Hid (k.p=c.p):=zH (by simpa using b3);have hl:(ins.length:Int)=(ni:Int):=by rw [HL.out]
 rw [hl] at HB;clear hl
 cases b4:((ni:Int) == 60)
 ·have n4:((ni:Int) != 60)=true:=by rw [bne,b4];rfl
  clear b3 b4;have GZ:=gbT GB.out (g3);have RZ:=D8.out.grow (g3);obtain ⟨f0,f1,f2,f3,f4,f5,f6,f7,f8⟩:=RZ.f9;obtain ⟨b0,b1,b2,b3,b4,b5,b6,b7,b8⟩:=RZ.c9;have RS:=Zd RZ eng0L rfl;have GS:=Zu GZ (Za gR eng0L 0 _) hgR;simp only [Zm,eng0L,Nat.zero_add,Nat.reduceAdd] at RS GS;have RS:=zH RS;have GS:=zH GS;clear RZ GZ;go_wp2_with fail;refine Xq Tryz.results39 (by rfl) Yu (cs:=#[.int .i64 0,.slice none 0 0,.int .i64 0,.slice none 0 0,.slice none 0 0,.slice none 0 0,.slice none 0 0,.int .i64 0,.bool false]) RS.out (by rfl) (by rfl) ?_;exact ⟨rfl,GS.out⟩
 have n4:((ni:Int) != 60)=false:=by rw [bne,b4];rfl
 rw [b1,b2,b3,b4] at HB;clear b1 b2 b3 b4 g3;go_wp2_with fail;clear n3 n4 k0 x0;rw [show elemsB c.p ins=elemsB k.p ins by rw [HPP.out]] at HB;refine (ZQ k.p I ni ci ins w3 (by omega) (HI.out.grow G3.out) (by omega)).mono ?_;rintro e w4 ⟨rfl,rfl⟩
 cases b5:elemsB k.p ins
 ·skip
  have GZ:=gbT GB.out (G3.out);have RZ:=D8.out.grow (G3.out);obtain ⟨f0,f1,f2,f3,f4,f5,f6,f7,f8⟩:=RZ.f9;obtain ⟨b0,b1,b2,b3,b4,b5,b6,b7,b8⟩:=RZ.c9;have RS:=Zd RZ eng0L rfl;have GS:=Zu GZ (Za gR eng0L 0 _) hgR;simp only [Zm,eng0L,Nat.zero_add,Nat.reduceAdd] at RS GS;have RS:=zH RS;have GS:=zH GS;clear RZ GZ;go_wp2_with fail;refine Xq Tryz.results39 (by rfl) Yu (cs:=#[.int .i64 0,.slice none 0 0,.int .i64 0,.slice none 0 0,.slice none 0 0,.slice none 0 0,.slice none 0 0,.int .i64 0,.bool false]) RS.out (by rfl) (by rfl) ?_;exact ⟨rfl,GS.out⟩
 rw [b5] at HB;clear b5;have y0:=(D2.out.grow G3.out).cell 0;have y1:=(D2.out.grow G3.out).cell 1;simp at y0 y1;go_wp2_with fail;clear y0 y1;refine (XQ s a _).mono ?_;rintro e w4 ⟨rfl,g4⟩;have g4:=gbT G3.out g4
 have hb:(tapeB s a&&!decide (900000<a))=false:=by
  have:=HB.out;rw [Bool.and_assoc] at this
  simpa using this.symm
 rw [hb];clear hb;have GZ:=gbT GB.out (g4);have RZ:=D8.out.grow (g4);obtain ⟨f0,f1,f2,f3,f4,f5,f6,f7,f8⟩:=RZ.f9;obtain ⟨b0,b1,b2,b3,b4,b5,b6,b7,b8⟩:=RZ.c9;have RS:=Zd RZ eng0L rfl;have GS:=Zu GZ (Za gR eng0L 0 _) hgR;simp only [Zm,eng0L,Nat.zero_add,Nat.reduceAdd] at RS GS;have RS:=zH RS;have GS:=zH GS;clear RZ GZ;go_wp2_with fail;refine Xq Tryz.results39 (by rfl) Yu (cs:=#[.int .i64 0,.slice none 0 0,.int .i64 0,.slice none 0 0,.slice none 0 0,.slice none 0 0,.slice none 0 0,.int .i64 0,.bool false]) RS.out (by rfl) (by rfl) ?_;exact ⟨rfl,GS.out⟩
end Go.Proofs.YthaadgdeadbhkaaGreat
