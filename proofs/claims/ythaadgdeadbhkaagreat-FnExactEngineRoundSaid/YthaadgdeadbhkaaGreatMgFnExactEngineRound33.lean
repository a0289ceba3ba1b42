/-
 l28Auth of the reference: a copy.
-/
import Derived.Test.YthaadgdeadbhkaaGreatMgFnExactEngineRound32
open Go.RowKit
set_option linter.unusedVariables false
set_option linter.unusedSimpArgs false
namespace Go.Proofs.YthaadgdeadbhkaaGreat
def autV (lo:Nat) (m:AuM) (v:Value) (w:World):Prop:=∃A n c B k d,v=.agg #[.slice A n c,.slice B k d]∧autF lo m (.agg #[.slice A n c,.slice B k d]) w
theorem autV_st {lo:Nat} {m:AuM}:stable (autV lo m):=fun v w w' ⟨A,n,c,B,k,d,h1,h2⟩ hg=>⟨A,n,c,B,k,d,h1,h2.grow hg⟩
def emptyS (lo:Nat) (v:Value) (w:World):Prop:=∃g,v=.slice (some ⟨g,0,none⟩) 0 0∧lo≤g∧Blk w g 3 #[]∧w.ownsRow 0 3 1 (.slice (some ⟨g,0,none⟩) 0 0) 0 []
theorem VE {lo:Nat}:stable (emptyS lo):=fun v w w' ⟨g,h1,h2,h3,h4⟩ hg=>⟨g,h1,h2,h3.grow hg,Zu h4 hg⟩
theorem emptyS_chg {lo:Nat} {v:Value} {w w':World} {S:Nat→Prop} (h:emptyS lo v w) (k:Chg S w w') (hS:∀y,S y→y<lo):emptyS lo v w':=by
 obtain ⟨g,h1,h2,h3,h4⟩:=h;exact ⟨g,h1,h2,h3.chg k (fun hs=>by have:=hS g hs;omega),Chg.own h4 k (fun y hy hs=>by have:=hS y hs;simp [Value.ownBlock] at hy;omega)⟩
def rowE (lo n:Nat) (L:List Int) (v u:Value) (w:World):Prop:=∃A c g,v=.slice A n c∧w.ownsRow lo 3 1 (.slice A n c) n (L.map (Value.int .i64))∧u=.slice (some ⟨g,0,none⟩) 0 0∧∀b,(Value.slice A n c).ownBlock=some b→b=g∨0<n
theorem row2.grow {lo n m:Nat} {L M:List Int} {v u:Value} {w w':World} (h:row2 lo n m L M v u w) (hg:w.grownBy w' none):row2 lo n m L M v u w':=⟨h.1.grow hg,h.2.1.grow hg,h.2.2⟩
theorem row1_chg2 {lo n:Nat} {L:List Int} {v:Value} {w w':World} {S:Nat→Prop} (h:row1 lo n L v w) (k:Chg S w w') (hS:∀y,S y→y<lo):row1 lo n L v w':=by
 obtain ⟨A,c,h1,h2⟩:=h;exact ⟨A,c,h1,Chg.own h2 k (fun x hx hs=>by have:=(h2.lt x hx).1;have:=hS x hs;omega)⟩
def TCA (lo gK gR n k:Nat) (s m:Value) (L M:List Int):List Fact :=
 [onT 3 (emptyS lo),onT 4 (isV (.pointer (some ⟨gK,0,none⟩))),onT 5 (isV s),⟨[6,3],fun l w=>rowE lo n L (l.getD 0 undef) (l.getD 1 undef) w⟩,onT 7 (emptyS lo),onT 8 (isV (.pointer (some ⟨gK,1,none⟩))),onT 9 (isV m),
  ⟨[10,6],fun l w=>row2 lo n k L M (l.getD 1 undef) (l.getD 0 undef) w⟩,onT 11 (autV lo ⟨L,M⟩),⟨[11],fun l w=>blkP gR (l.getD 0 undef) w⟩]
section
variable {lo gK gR n k:Nat} {s m:Value} {L M:List Int}
theorem TCA_st:Zn (TCA lo gK gR n k s m L M):=by
 unfold TCA;intro F hF;simp only [List.mem_cons,List.not_mem_nil,or_false] at hF
 rcases hF with rfl | rfl | rfl | rfl | rfl | rfl | rfl | rfl | rfl | rfl
 all_goals first | exact Yg (Zb _) | exact Yg VE | exact Yg autV_st | skip
 ·rintro l w w' ⟨A,c,g,h1,h2,h3,h4⟩ hg
  exact ⟨A,c,g,h1,Zu h2 hg,h3,h4⟩
 ·exact fun l w w' h hg=>row2.grow h hg
 ·rintro l w w' ⟨A,B,n,c,k,d,h1,h2⟩ hg
  exact ⟨A,B,n,c,k,d,h1,h2.grow hg⟩
theorem TCA_keep {f:Tmp→Value} {w w':World} (h:Chg (fun y=>y=gR) w w') (hl:gR<lo):keeps f w w' 9 (TCA lo gK gR n k s m L M) 0:=by
 have hS:∀y,y=gR→y<lo:=fun y hy=>by omega
 simp only [TCA,keeps,and_true];refine ⟨fun _ q=>emptyS_chg q h hS,fun _ q=>q,fun _ q=>q,fun _ ⟨A,c,g,h1,h2,h3,h4⟩=>⟨A,c,g,h1,Chg.own h2 h (fun x hx hs=>by have:=(h2.lt x hx).1;have hs:x=gR:=hs;omega),h3,h4⟩,fun _ q=>emptyS_chg q h hS,fun _ q=>q,fun _ q=>q,fun _ q=>⟨row1_chg2 q.1 h hS,row1_chg2 q.2.1 h hS,q.2.2⟩,fun _ ⟨A,n,c,B,k,d,h1,h2⟩=>⟨A,n,c,B,k,d,h1,autF.chg h2 h hl⟩,fun e=>absurd rfl e⟩
end
set_option maxHeartbeats 2000000 in
set_option maxRecDepth 100000 in
theorem specl28Auth_c (a:AuM) (av:Value) (w0:World) (ha:AggR w0 (cauth a) av) (wa:awf a) :
  Calls Tryz.prog 127 #[av] w0 fun e w'=>∃v,e=.returned v∧autF w0.heap.size a v w'∧w0.grownBy w' none:=by
 obtain ⟨Ba,da,Ca,fa,rfl,_,_,_,_,hSa,hMa⟩:=ZC ha;obtain ⟨wq,hw1⟩:∃x:World,((w0.alloc (.cells #[.slice Ba a.sh.length da,.slice Ca a.mc.length fa] 80)).alloc (.cells #[.slice none 0 0,.slice none 0 0] 80))=x:=⟨_,rfl⟩;have GW:Hid (w0.grownBy wq none):=by rw [← hw1];exact gbA (gbA (gbR _ _) _) _
 have z1:Hid (wq.heap.size=w0.heap.size+2):=by rw [← hw1];exact zH (by simp)
 have D1:Hid (Blk wq w0.heap.size 80 #[.slice Ba a.sh.length da,.slice Ca a.mc.length fa]):=by rw [← hw1];exact (Blk.new w0 _ _).grow (gbA (gbR _ _) _)
 have D3:Hid (Blk wq (w0.heap.size+1) 80 #[.slice none 0 0,.slice none 0 0]):=by rw [← hw1];exact Blk.new' _ _ _ _ (by simp)
 have IS:=zH (hSa.grow GW.out);have IM:=zH (hMa.grow GW.out)
 have LS:Hid (0<a.sh.length→∀b,Ba=some b→b.block<w0.heap.size):=zH (fun hp b hb=>by
  obtain ⟨b',o',e',hb',_⟩:=hSa.at_ hp
  rw [hb] at e';injection e' with e';rw [e'];exact hb')
 have LM:Hid (0<a.mc.length→∀b,Ca=some b→b.block<w0.heap.size):=zH (fun hp b hb=>by
  obtain ⟨b',o',e',hb',_⟩:=hMa.at_ hp
  rw [hb] at e';injection e' with e';rw [e'];exact hb')
 have WA:=zH wa;clear ha hSa hMa wa
 go_enter Tryz.func127,Tryz.ntmps127
 go_wp2_with fail;clear hw1;have hlz:=z1.out
 have HX:Hid (∀w4,Chg (fun b=>∃s,(s,b)∈[(9,w0.heap.size+1)]) wq.drew w4→Chg (fun b=>b=w0.heap.size+1) wq w4):=zH (fun w4 hG=>chgDr (hG.mono (fun b hb=>by
  obtain ⟨s,hs⟩:=hb;simp only [List.mem_cons,List.not_mem_nil,or_false,Prod.mk.injEq] at hs
  exact hs.2)))
 refine Qr (TCA (w0.heap.size+2) w0.heap.size (w0.heap.size+1) a.sh.length a.mc.length (.slice Ba a.sh.length da) (.slice Ca a.mc.length fa) a.sh a.mc) [⟨0,3,4,7,apart⟩] [(9,w0.heap.size+1)] (by kernel_rfl) (by kernel_rfl) (by kernel_rfl) (by kernel_rfl) TCA_st ?_ ?_
 ·simp only [hops7,and_true]
  refine ⟨?_, ?_, ?_, ?_, ?_, ?_, ?_, ?_, ?_, ?_⟩
  ·skip
   intro f w4 hG pre old hd _;have hz4:=hG.size;simp at hz4;clear hd hG pre old;simp [puts,dsts,Act.put];go_wp2_with fail;refine ⟨_,rfl,⟨w4.heap.size,rfl,by omega,Blk.new _ _ _,World.ownsRow_made w4 #[] 0 (Nat.zero_le _) (by simp) rfl⟩,Or.inl (gbA (gbR _ _) _),fun p hp => ?_⟩;simp only [List.mem_cons,List.not_mem_nil,or_false] at hp;subst hp;refine ⟨fun _ ⟨g,e7,_,hB,_⟩ => ?_,fun e=>absurd e (by decide)⟩;have e7:f 7=_:=e7;have hB:Blk w4 g _ _:=hB
   show apart _ (f 7)
   rw [e7];intro b hb hb';have:=hB.lt;simp [Value.ownBlock] at hb hb';omega
  rotate_left 2
  ·intro f w4 hG pre old hd _
   have hGx:=HX.out w4 hG;have hz4:=hGx.size;have I4:=zH (Chg.rdk (w:=wq) (w':=w4) IS.out hGx (fun hp b hb e=>by have:=LS.out hp b hb;omega));clear hG pre old hGx;simp [depsF,bindE,List.filter_cons,Zy,Zp,Zq,Zr,Zz,Yu,TCA,fAt,Yn,isV] at hd;obtain ⟨⟨g3,e3,hg3,B3,O3⟩,e5⟩:=hd;simp [puts,dsts,Act.put,e3,e5]
   go_wp2_with (at_builtin;refine Xy w4 YF rfl (.tmp 3) (.tmp 5) rfl g3 O3 rfl Ba a.sh.length da _ rfl I4.out (by simp [Value.oneCell']) (by have:=WA.out.1;unfold maxLen;omega) (by have:=WA.out.1;omega) ?_;intro v6 w6 o6 g6 n6)
   obtain ⟨A6,c6,rfl,_,_⟩:=Ye o6;refine ⟨_,rfl,⟨A6,c6,g3,rfl,Xu o6 (fun g hg => ?_),e3,fun b hb=>(n6 b hb).imp id (fun h=>h.2)⟩,Or.inl g6,fun p hp => ?_⟩
   ·rcases n6 g hg with h6 | h6
    ·omega
    ·have:=h6.1;omega
   ·simp only [List.mem_cons,List.not_mem_nil,or_false] at hp
    subst hp;exact ⟨fun e=>absurd e (by decide),fun e=>absurd e (by decide)⟩
  ·skip
   intro f w4 hG pre old hd _;have hz4:=hG.size;simp at hz4;clear hd hG pre old;simp [puts,dsts,Act.put];go_wp2_with fail;refine ⟨_,rfl,⟨w4.heap.size,rfl,by omega,Blk.new _ _ _,World.ownsRow_made w4 #[] 0 (Nat.zero_le _) (by simp) rfl⟩,Or.inl (gbA (gbR _ _) _),fun p hp => ?_⟩;simp only [List.mem_cons,List.not_mem_nil,or_false] at hp;subst hp;refine ⟨fun e=>absurd e (by decide),fun _ ⟨g,e7,_,hB,_⟩ => ?_⟩;have e7:f 3=_:=e7;have hB:Blk w4 g _ _:=hB
   show apart (f 3) _
   rw [e7];intro b hb hb';have:=hB.lt;simp [Value.ownBlock] at hb hb';omega
  rotate_left 2
  ·intro f w4 hG pre old hd hpr
   have hGx:=HX.out w4 hG;have hz4:=hGx.size;have I4:=zH (Chg.rdk (w:=wq) (w':=w4) IM.out hGx (fun hp b hb e=>by have:=LM.out hp b hb;omega));have hap:apart (f 3) (f 7):=hpr _ (List.mem_cons_self ..) (by kernel_rfl) (by kernel_rfl) (by decide) (by decide);clear hG pre old hGx hpr;simp [depsF,bindE,List.filter_cons,Zy,Zp,Zq,Zr,Zz,Yu,TCA,fAt,Yn,isV] at hd;obtain ⟨⟨g7,e7,hg7,B7,O7⟩,e9,h36⟩:=hd;obtain ⟨A6,c6,g3,e6,o6,e3,n6⟩:rowE (w0.heap.size+2) a.sh.length a.sh (f 6) (f 3) w4:=h36;rw [e3,e7] at hap;have hap37:g3≠g7:=fun e=>hap g3 rfl (by rw [e];rfl);simp [puts,dsts,Act.put,e7,e9]
   go_wp2_with (at_builtin;refine Xy w4 YF rfl (.tmp 7) (.tmp 9) rfl g7 O7 rfl Ca a.mc.length fa _ rfl I4.out (by simp [Value.oneCell']) (by have:=WA.out.2;unfold maxLen;omega) (by have:=WA.out.2;omega) ?_;intro v10 w10 o10 g10 n10)
   obtain ⟨A10,c10,rfl,_,_⟩:=Ye o10
   have hR2:row2 (w0.heap.size+2) a.sh.length a.mc.length a.sh a.mc (f 6) (.slice A10 a.mc.length c10) w10:=by
    rw [e6];refine ⟨row1.of (Zu o6 g10),row1.of (Xu o10 (fun g hg => ?_)),fun g hg hg' => ?_⟩
    ·rcases n10 g hg with h6 | h6
     ·omega
     ·have:=h6.1;omega
    ·have hlt:=(o6.lt g hg).2
     rcases n10 g hg' with h6 | h6
     ·rcases n6 g hg with h7 | h7
      ·omega
      ·subst h6
       rcases o6.2 with ⟨e1,_⟩ | ⟨g1,cap,cur,hv1,_⟩
       ·rw [e1] at hg;cases hg
       ·rw [hv1] at hg
        have:g1=g:=by simpa [Value.ownBlock] using hg
        subst this;injection hv1 with q1 q2 q3;obtain ⟨b',o',e',_,hc'⟩:=Ints.at_ (show Ints w4 _ a.sh.length a.sh from Rd.ofOwn o6) h7;rw [q1] at e';injection e' with e';injection e' with e1 e2 _;subst e1;subst e2;have h8:=hc' 0 h7;have h9:=B7.cell 0;rw [show ((0:Nat)+0)=0 from rfl] at h8;rw [h8] at h9;simp at h9
     ·have:=h6.1;omega
   have HR2:=zH hR2;have G10:=zH g10;clear o10 g10 n10 hR2
   exact ⟨_,rfl,HR2.out,Or.inl G10.out,fun p hp=>by
    simp only [List.mem_cons,List.not_mem_nil,or_false] at hp;subst hp
    exact ⟨fun e=>absurd e (by decide),fun e=>absurd e (by decide)⟩⟩
  ·refine VY rfl ?_
   intro f w4 hG pre old hd;simp [depsF,bindE,List.filter_cons,Zy,Zp,Zq,Zr,Zz,Yu,TCA,fAt,Yn,isV] at hd
   have h10:row2 (w0.heap.size+2) a.sh.length a.mc.length a.sh a.mc (f 6) (f 10) w4:=by first | exact hd.2 | exact hd.1 | exact hd.2.1
   have hau:=row2.agg h10;obtain ⟨⟨A6,c6,e6,_⟩,⟨A10,c10,e10,_⟩,_⟩:=h10;rw [e6,e10] at hau;have HAU:=zH hau;clear hau hd hG pre old;simp [puts,dsts,Act.put,e6,e10];go_wp2_with fail;exact ⟨_,rfl,⟨_,_,_,_,_,_,rfl,HAU.out⟩,Or.inl (gbR _ _)⟩
  ·refine VY rfl ?_
   intro f w4 hG pre old hd;simp [depsF,bindE,List.filter_cons,Zy,Zp,Zq,Zr,Zz,Yu,TCA,fAt,Yn,isV] at hd
   have h11:autV (w0.heap.size+2) ⟨a.sh,a.mc⟩ (f 11) w4:=by first | exact hd | exact hd.1
   obtain ⟨A8,n8,c8,A9,n9,c9,e11,h11⟩:=h11
   have R4:Blk w4 (w0.heap.size+1) 80 #[.slice none 0 0,.slice none 0 0]:=by
    have h9:=D3.out;unfold Blk at h9 ⊢;rw [← h9]
    exact pre _ (by have:=D3.out.lt;simpa using this) (fun s hs=>by
     simp only [List.mem_cons,List.not_mem_nil,or_false,Prod.mk.injEq] at hs
     rw [hs.1];kernel_rfl)
   have f0:=R4.frozen 0;have f1':=R4.frozen 1;have b0:=R4.cell 0;have b1:=R4.cell 1;simp at b0 b1;have CH:=Zc (w0.heap.size+1) [.slice A8 n8 c8,.slice A9 n9 c9] 0 w4;have RS:=Zh R4 [.slice A8 n8 c8,.slice A9 n9 c9] rfl;have hK:=TCA_keep (gK:=w0.heap.size) (n:=a.sh.length) (k:=a.mc.length) (s:=.slice Ba a.sh.length da) (m:=.slice Ca a.mc.length fa) (L:=a.sh) (M:=a.mc) (f:=f) CH (show w0.heap.size+1<w0.heap.size+2 by omega);have CM:=CH.mono (T:=fun b=>wq.heap.size≤b∨(9,b)∈[(9,w0.heap.size+1)]) (fun z hz=>by have hz:z=_:=hz;subst hz;exact .inr (by simp));simp only [ZW,Nat.zero_add,Nat.reduceAdd] at hK CM;have HK9:=zH hK;have HCM:=zH CM;have HRS:=zH RS;clear CH hK CM RS R4 hd hG pre old h11;simp [puts,dsts,Act.put,e11];go_wp2_with fail;exact ⟨rfl,⟨.bool false,A8,A9,n8,c8,n9,c9,e11,HRS.out⟩,Or.inr ⟨by simpa using HCM.out,HK9.out⟩⟩
  all_goals
   refine VY rfl ?_;intro f w4 hG pre old hd;have hGx:=HX.out w4 hG;have k0:=(D1.out.chg hGx (by omega)).cell 0;have k1:=(D1.out.chg hGx (by omega)).cell 1;simp at k0 k1;clear hGx hG pre old;simp [depsF,bindE,List.filter_cons,Zy,Zp,Zq,Zr,Zz,Yu,TCA,fAt,Yn,isV] at hd
   first | simp [puts,dsts,Act.put,hd] | simp [puts,dsts,Act.put]
   try clear hd
   go_wp2_with fail;exact ⟨_,rfl,by simp [TCA,fAt,Yn,Yf,isV],Or.inl (gbR _ _)⟩
 intro f w6 hG hd _;have h8:=WJ hd (i:=8) rfl;have h9:=WJ hd (i:=9) rfl;have h8:autV (w0.heap.size+2) ⟨a.sh,a.mc⟩ (f 11) w6:=h8;have h9:blkP (w0.heap.size+1) (f 11) w6:=h9;obtain ⟨A8,n8,c8,A9,n9,c9,e11,h8⟩:=h8;rw [e11] at h9;obtain ⟨B8,B9,q8,d8,q9,d9,e9,B29⟩:=h9;injection e9 with e9;injection e9 with e9;injection e9 with e90 e9;injection e9 with e91 _;rw [← e90,← e91] at B29;clear e90 e91;have AU:=zH h8;have GZ:=zH (gbChg GW.out (HX.out w6 hG) (fun z hz=>by omega));have BA:=zH B29;simp only [puts,dsts,Act.put,zB,zC,zA,zD,zE];clear hd hG B29 e11;go_wp2_with fail;refine Yo Tryz.results127 (by rfl) stAuth (cs:=#[.slice A8 n8 c8,.slice A9 n9 c9]) BA.out (by rfl) (by rfl) ?_;exact ⟨_,rfl,autF.lo AU.out (by omega),GZ.out⟩
attribute [local simp] depsC dstAt kAt bindE List.filter_cons Zy Zp Zq Zr Zz Yu
def emptyT (lo:Nat) (T:TypeId) (s:Nat) (v:Value) (w:World):Prop:=∃g,v=.slice (some ⟨g,0,none⟩) 0 0∧lo≤g∧w.ownsRow 0 T s (.slice (some ⟨g,0,none⟩) 0 0) 0 []
theorem XZ {lo:Nat} {T:TypeId} {s:Nat}:stable (emptyT lo T s):=fun v w w' ⟨g,h1,h2,h4⟩ hg=>⟨g,h1,h2,Zu h4 hg⟩
theorem ownL_typ2 {lo:Nat} {L:List (Int × Int × Int)} {M:List Int} {v u:Value} {w:World} (h:ownF lo (csteps L) v w) (k:ownF lo (cints M) u w):ownL lo [csteps L,cints M] [v,u] w:=by
 obtain ⟨F,h1,h2⟩:=h;obtain ⟨G,k1,k2⟩:=k;refine ⟨[F,G],OwnAll.cons h1 (OwnAll.cons k1 (OwnAll.nil _) (by simp)) (fun g hg hg' => ?_),fun x hx => ?_⟩
 ·have hg':g∈G:=by simpa using hg'
  obtain ⟨c1,T1,z1,e1,t1⟩:=Yv (Ts:=[102]) (by simp) w F v h1 g hg;obtain ⟨c2,T2,z2,e2,t2⟩:=Yv (Ts:=[3]) (by simp) w G u k1 g hg';rw [e1] at e2;injection e2 with e2;injection e2 with _ e3 _;simp at t1 t2;rw [t1,t2] at e3;exact absurd e3 (by decide)
 ·simp only [List.flatten_cons,List.flatten_nil,List.append_nil,List.mem_append] at hx
  rcases hx with hx | hx
  ·exact h2 x hx
  ·exact k2 x hx
set_option maxHeartbeats 2000000 in
set_option maxRecDepth 100000 in
theorem specl28Keys_c (k:KM) (kv:Value) (w0:World) (h:AggR w0 (ckeys k) kv) (wk:kwf k) :
  Calls Tryz.prog 87 #[kv] w0 fun e w'=>∃v,e=.returned v∧aggF w0.heap.size (ckeys k) v w'∧w0.grownBy w' none:=by
 obtain ⟨A,c,rfl,hc,hm,hI⟩:=ZK h;obtain ⟨w1,hw1⟩:∃x:World,((w0.alloc (.cells #[.int .i64 k.p,.slice A k.al.length c] 34)).alloc (.cells #[.int .i64 0,.slice none 0 0] 34))=x:=⟨_,rfl⟩;have GW:Hid (w0.grownBy w1 none):=by rw [← hw1];exact gbA (gbA (gbR _ _) _) _
 have z1:Hid (w1.heap.size=w0.heap.size+2):=by rw [← hw1];exact zH (by simp)
 have D1:Hid (Blk w1 w0.heap.size 34 #[.int .i64 k.p,.slice A k.al.length c]):=by rw [← hw1];exact (Blk.new w0 _ _).grow (gbA (gbR _ _) _)
 have D3:Hid (Blk w1 (w0.heap.size+1) 34 #[.int .i64 0,.slice none 0 0]):=by rw [← hw1];exact Blk.new' _ _ _ _ (by simp)
 have IS:=zH (hI.grow GW.out);have WK:=zH wk.2;clear h hI wk
 go_enter Tryz.func87,Tryz.ntmps87
 go_wp2_with fail;clear hw1;have hlz:w0.heap.size+2≤w1.heap.size:=by have:=z1.out;omega
 have d0:=D1.out.cell 0;have d1:=D1.out.cell 1;simp at d0 d1
 refine Zg [.rd (.pointer (some ⟨w0.heap.size,0,none⟩)),.rd (.int .i64 k.p),.fl (emptyS (w0.heap.size+2)),.rd (.pointer (some ⟨w0.heap.size,1,none⟩)),.rd (.slice A k.al.length c),.ch,.ch,.ch] (fun _=>False)
  [⟨[],fun _ w'=>w1.drew.grownBy w' none⟩,
   ⟨[8],fun l w'=>ownF (w0.heap.size+2) (cints k.al) (l.getD 0 undef) w'⟩,
   ⟨[9],fun l w'=>aggF (w0.heap.size+2) (ckeys k) (l.getD 0 undef) w'⟩,
   ⟨[],fun _ w'=>∃F,SOF 34 (ckeys k) (w0.heap.size+1) F w'∧(∀x∈F,w0.heap.size≤x)∧w0.grownBy w' none⟩]
  (by kernel_rfl) (by kernel_rfl) (by kernel_rfl) 3 (by kernel_rfl) ?_ (gbR _ _) rfl ?_ ?_
 ·have hst:Zn [⟨[],fun _ w'=>w1.drew.grownBy w' none⟩,⟨[8],fun l w'=>ownF (w0.heap.size+2) (cints k.al) (l.getD 0 undef) w'⟩,⟨[9],fun l w'=>aggF (w0.heap.size+2) (ckeys k) (l.getD 0 undef) w'⟩,⟨[],fun _ w'=>∃F,SOF 34 (ckeys k) (w0.heap.size+1) F w'∧(∀x∈F,w0.heap.size≤x)∧w0.grownBy w' none⟩]:=by
   refine Zm (fun l w1 w2 h hg=>gbT h hg) ?_;refine Zm (ZE fun l w1 w2 h hg=>ownF.grow h hg) ?_;refine Zm (ZE fun l w1 w2 h hg=>aggF.grow h hg) ?_;exact Zm (ZE fun l w1 w2 ⟨F,h1,h2,h3⟩ hg=>⟨F,h1.grow hg,h2,gbT h3 hg⟩) YO
  simp only [flOk,true_and,and_true];exact ⟨VE,hst⟩
 ·simp only [hopsK,hopK,Kd.next,and_true]
  refine ⟨?_, ?_, ?_, ?_, ?_, ?_, ?_, ?_⟩;rotate_left 2
  ·intro f w4 hG hd
   have hg4:=gbT (gbD (gbR w1 none)) (chgF hG);have hz4:=hg4.size;clear hd;simp [puts,dsts,Act.put];go_wp2_with fail;exact ⟨_,rfl,⟨w4.heap.size,rfl,by omega,Blk.new _ _ _,World.ownsRow_made w4 #[] 0 (Nat.zero_le _) (by simp) rfl⟩,gbA (gbR _ _) _⟩
  rotate_left 2
  ·intro f w4 hG hI hd
   have hg4:=gbT (gbD (gbR w1 none)) (chgF hG);have hz4:=hg4.size;have I4:=zH (IS.out.grow hg4)
   (try simp at hd)
   obtain ⟨⟨g3,e3,hg3,B3,O3⟩,e7⟩:=hd;simp [puts,dsts,Act.put,e3,e7]
   go_wp2_with (at_builtin;refine Xy w4 YF rfl (.tmp 5) (.tmp 7) rfl g3 O3 rfl A k.al.length c _ rfl I4.out (by simp [Value.oneCell']) (by have:=WK.out;unfold maxLen;omega) (by have:=WK.out;omega) ?_;intro v6 w6 o6 g6 n6)
   have O6:=zH (ownF.ints (lo:=w0.heap.size+2) (Xu o6 (fun g hg=>(n6 g hg).elim (fun h=>by omega) (fun h=>by have:=h.1;omega))));have G6:=zH g6;clear o6 g6 n6;exact ⟨_,rfl,O6.out,⟨Chg.of G6.out (by simp),by simp [keepsC,dstAt];exact fun h=>VE _ _ _ h G6.out⟩⟩
  ·intro f w4 hG hI hd
   have hg4:=gbT (gbD (gbR w1 none)) (chgF hG);have hz4:=hg4.size;obtain ⟨F,o7,l7⟩:=hI;have o7:(cints k.al).own w4 F (f 8):=o7;obtain ⟨B1,n1,c1,e7⟩:=ZJ o7;rw [e7] at o7
   (try simp at hd)
   simp [puts,dsts,Act.put,hd,e7];clear hd;go_wp2_with fail;exact ⟨_,rfl,⟨_,XN o7,fun x hx=>l7 x (by simpa using hx)⟩,⟨Chg.refl _ _,by simp [keepsC,dstAt]⟩⟩
  ·intro f w4 hG hI hd
   have hg4:=gbT (gbD (gbR w1 none)) (chgF hG);have hz4:=hg4.size;obtain ⟨F,o8,l8⟩:=hI;have o8:AggO w4 (ckeys k) F (f 9):=o8;obtain ⟨B1,n1,c1,e8⟩:=Wc o8;rw [e8] at o8;have R4:=D3.out.grow hg4;have f0:=R4.frozen 0;have f1:=R4.frozen 1;have b0:=R4.cell 0;have b1:=R4.cell 1;simp at b0 b1;have RS:=zH (SOF.store R4 (us:=[.int .i64 k.p,.slice B1 n1 c1]) rfl o8 (fun hx=>by have:=l8 _ hx;omega));have GS:=zH (Zv (gbT GW.out hg4) (Zc (w0.heap.size+1) [.int .i64 k.p,.slice B1 n1 c1] 0 w4) (by omega))
   (try simp at hd)
   simp [puts,dsts,Act.put,hd,e8];clear hd R4;go_wp2_with fail;exact ⟨rfl,.bool false,F,RS.out,fun x hx=>by have:=l8 x hx;omega,GS.out⟩
  all_goals
   intro f w4 hG hd;have hg4:=gbT (gbD (gbR w1 none)) (chgF hG);have k0:=gbk hg4 (d0);have k1:=gbk hg4 (d1)
   (try simp at hd)
   (first | simp [puts,dsts,Act.put,hd] | simp [puts,dsts,Act.put])
   clear hd;go_wp2_with fail;exact ⟨rfl,rfl⟩
 intro f w9 hI hd;simp only [puts,dsts,Act.put,zB,zC,zA,zD,zE];obtain ⟨F,hS,hl,hG⟩:=hI;obtain ⟨vs,hB,hA⟩:=hS.agg;have HA:=zH hA;have HL:=zH hl;have HG:=zH hG;clear hd hS hA hl hG d0 d1;go_wp2_with fail;refine Yo Tryz.results87 (by rfl) stKeys (cs:=vs.toArray) hB (by rw [List.size_toArray];exact XL HA.out) (by rfl) ?_;exact ⟨_,rfl,⟨F,HA.out,HL.out⟩,HG.out⟩
set_option maxHeartbeats 2000000 in
set_option maxRecDepth 100000 in
theorem specl28Arith_c (m:AM) (v:Value) (w0:World) (h:AggR w0 (carith m) v) (wm:amwf m) :
  Calls Tryz.prog 88 #[v] w0 fun e w'=>∃v,e=.returned v∧aggF w0.heap.size (carith m) v w'∧w0.grownBy w' none:=by
 obtain ⟨u1,u2,rfl,h1,h2⟩:=ZA h;obtain ⟨A,c,rfl,hc,hm,hF⟩:=ZX (s:=3) (fun _=>rfl) (by omega) h1;obtain ⟨B,d,rfl,hd1,hm2,hJ⟩:=ZF h2;obtain ⟨w1,hw1⟩:∃x:World,((w0.alloc (.cells #[.int .i64 m.p,.slice A m.st.length c,.slice B m.outs.length d] 38)).alloc (.cells #[.int .i64 0,.slice none 0 0,.slice none 0 0] 38))=x:=⟨_,rfl⟩;have GW:Hid (w0.grownBy w1 none):=by rw [← hw1];exact gbA (gbA (gbR _ _) _) _
 have z1:Hid (w1.heap.size=w0.heap.size+2):=by rw [← hw1];exact zH (by simp)
 have D1:Hid (Blk w1 w0.heap.size 38 #[.int .i64 m.p,.slice A m.st.length c,.slice B m.outs.length d]):=by rw [← hw1];exact (Blk.new w0 _ _).grow (gbA (gbR _ _) _)
 have D3:Hid (Blk w1 (w0.heap.size+1) 38 #[.int .i64 0,.slice none 0 0,.slice none 0 0]):=by rw [← hw1];exact Blk.new' _ _ _ _ (by simp)
 have IF:=zH (FL.grow hF GW.out);have IJ:=zH (hJ.grow GW.out);have WM:=zH wm;clear h h1 h2 hF hJ wm
 go_enter Tryz.func88,Tryz.ntmps88
 go_wp2_with fail;clear hw1;have hlz:w0.heap.size+2≤w1.heap.size:=by have:=z1.out;omega
 have d0:=D1.out.cell 0;have d1:=D1.out.cell 1;have d2:=D1.out.cell 2;simp at d0 d1 d2
 refine Zg [.rd (.pointer (some ⟨w0.heap.size,0,none⟩)),.rd (.int .i64 m.p),.fl (emptyT (w0.heap.size+2) 102 3),.rd (.pointer (some ⟨w0.heap.size,1,none⟩)),.rd (.slice A m.st.length c),.ch,.fl (emptyT (w0.heap.size+2) 3 1),.rd (.pointer (some ⟨w0.heap.size,2,none⟩)),.rd (.slice B m.outs.length d),.ch,.ch,.ch] (fun _=>False)
  [⟨[],fun _ w'=>w1.drew.grownBy w' none⟩,
   ⟨[8],fun l w'=>ownF (w0.heap.size+2) (csteps m.st) (l.getD 0 undef) w'⟩,
   ⟨[8,12],fun l w'=>ownL (w0.heap.size+2) [csteps m.st,cints m.outs] [l.getD 0 undef,l.getD 1 undef] w'⟩,
   ⟨[13],fun l w'=>aggF (w0.heap.size+2) (carith m) (l.getD 0 undef) w'⟩,
   ⟨[],fun _ w'=>∃F,SOF 38 (carith m) (w0.heap.size+1) F w'∧(∀x∈F,w0.heap.size≤x)∧w0.grownBy w' none⟩]
  (by kernel_rfl) (by kernel_rfl) (by kernel_rfl) 4 (by kernel_rfl) ?_ (gbR _ _) rfl ?_ ?_
 ·have hst:Zn [⟨[],fun _ w'=>w1.drew.grownBy w' none⟩,⟨[8],fun l w'=>ownF (w0.heap.size+2) (csteps m.st) (l.getD 0 undef) w'⟩,⟨[8,12],fun l w'=>ownL (w0.heap.size+2) [csteps m.st,cints m.outs] [l.getD 0 undef,l.getD 1 undef] w'⟩,⟨[13],fun l w'=>aggF (w0.heap.size+2) (carith m) (l.getD 0 undef) w'⟩,⟨[],fun _ w'=>∃F,SOF 38 (carith m) (w0.heap.size+1) F w'∧(∀x∈F,w0.heap.size≤x)∧w0.grownBy w' none⟩]:=by
   refine Zm (fun l w1 w2 h hg=>gbT h hg) ?_;refine Zm (ZE fun l w1 w2 h hg=>ownF.grow h hg) ?_;refine Zm (ZE fun l w1 w2 h hg=>ownL.grow h hg) ?_;refine Zm (ZE fun l w1 w2 h hg=>aggF.grow h hg) ?_;exact Zm (ZE fun l w1 w2 ⟨F,h1,h2,h3⟩ hg=>⟨F,h1.grow hg,h2,gbT h3 hg⟩) YO
  simp only [flOk,true_and,and_true];exact ⟨⟨XZ,hst⟩,⟨XZ,hst⟩⟩
 ·simp only [hopsK,hopK,Kd.next,and_true]
  refine ⟨?_, ?_, ?_, ?_, ?_, ?_, ?_, ?_, ?_, ?_, ?_, ?_⟩;rotate_left 2
  ·intro f w4 hG hd
   have hg4:=gbT (gbD (gbR w1 none)) (chgF hG);have hz4:=hg4.size;clear hd;simp [puts,dsts,Act.put];go_wp2_with fail;exact ⟨_,rfl,⟨w4.heap.size,rfl,by omega,World.ownsRow_made w4 #[] 0 (Nat.zero_le _) (by simp) rfl⟩,gbA (gbR _ _) _⟩
  rotate_left 2
  ·intro f w4 hG hI hd
   have hg4:=gbT (gbD (gbR w1 none)) (chgF hG);have hz4:=hg4.size;have I4:=zH (FL.grow IF.out hg4)
   (try simp at hd)
   obtain ⟨⟨g3,e3,hg3,O3⟩,e7⟩:=hd;simp [puts,dsts,Act.put,e3,e7]
   go_wp2_with (at_builtin;refine Xy w4 elStep rfl (.tmp 5) (.tmp 7) rfl g3 O3 rfl A m.st.length c _ rfl I4.out.rd (fun u hu=>by obtain ⟨x,_,hx⟩:=List.mem_flatMap.1 hu;exact Uh x u hx) (by have:=WM.out.st;unfold maxLen;omega) (by have:=WM.out.st;omega) ?_;intro v6 w6 o6 g6 n6)
   have O6:Hid (ownF (w0.heap.size+2) (csteps m.st) v6 w6):=zH ⟨_,Xl (s:=3) (fun _=>rfl) (by omega) Uh o6,fun x hx=>by
    rcases n6 x (by simpa using hx) with h6 | h6
    ·omega
    ·have:=h6.1;omega⟩
   have G6:=zH g6;clear o6 g6 n6;exact ⟨_,rfl,O6.out,⟨Chg.of G6.out (by simp),by simp [keepsC,dstAt];exact ⟨fun h=>XZ _ _ _ h G6.out,fun h=>XZ _ _ _ h G6.out⟩⟩⟩
  ·intro f w4 hG hd
   have hg4:=gbT (gbD (gbR w1 none)) (chgF hG);have hz4:=hg4.size;clear hd;simp [puts,dsts,Act.put];go_wp2_with fail;exact ⟨_,rfl,⟨w4.heap.size,rfl,by omega,World.ownsRow_made w4 #[] 0 (Nat.zero_le _) (by simp) rfl⟩,gbA (gbR _ _) _⟩
  rotate_left 2
  ·intro f w4 hG hI hd
   have hg4:=gbT (gbD (gbR w1 none)) (chgF hG);have hz4:=hg4.size;have H8:Hid (ownF (w0.heap.size+2) (csteps m.st) (f 8) w4):=hI;clear hI;have I4:=zH (IJ.out.grow hg4)
   (try simp at hd)
   obtain ⟨⟨g3,e3,hg3,O3⟩,e7⟩:=hd;simp [puts,dsts,Act.put,e3,e7]
   go_wp2_with (at_builtin;refine Xy w4 YF rfl (.tmp 9) (.tmp 11) rfl g3 O3 rfl B m.outs.length d _ rfl I4.out (by simp [Value.oneCell']) (by have:=WM.out.outs;unfold maxLen;omega) (by have:=WM.out.outs;omega) ?_;intro v6 w6 o6 g6 n6)
   have o7:ownF (w0.heap.size+2) (cints m.outs) v6 w6:=ownF.ints (lo:=w0.heap.size+2) (Xu o6 (fun g hg=>(n6 g hg).elim (fun h=>by omega) (fun h=>by have:=h.1;omega)));have O6:=zH (ownL_typ2 (H8.out.grow g6) o7);have G6:=zH g6;clear o6 g6 n6 o7;exact ⟨_,rfl,O6.out,⟨Chg.of G6.out (by simp),by simp [keepsC,dstAt];exact ⟨fun h=>XZ _ _ _ h G6.out,fun h=>XZ _ _ _ h G6.out⟩⟩⟩
  ·intro f w4 hG hI hd
   have hg4:=gbT (gbD (gbR w1 none)) (chgF hG);have hz4:=hg4.size;have o7:ownL (w0.heap.size+2) [csteps m.st,cints m.outs] [f 8,f 12] w4:=hI;obtain ⟨F9,o9,l9⟩:=(o7.pl (x:=.int .i64 m.p) rfl).agg;obtain ⟨A1,n1,s1,A2,n2,s2,e⟩:=YP o9;injection e with e;injection e with e;injection e with _ e;injection e with e8 e;injection e with e11 _;rw [e8,e11] at o9
   (try simp at hd)
   simp [puts,dsts,Act.put,hd,e8,e11];clear hd;go_wp2_with fail;exact ⟨_,rfl,⟨F9,o9,l9⟩,⟨Chg.refl _ _,by simp [keepsC,dstAt]⟩⟩
  ·intro f w4 hG hI hd
   have hg4:=gbT (gbD (gbR w1 none)) (chgF hG);have hz4:=hg4.size;obtain ⟨F,o8,l8⟩:=hI;have o8:AggO w4 (carith m) F (f 13):=o8;obtain ⟨A1,n1,s1,A2,n2,s2,e8⟩:=YP o8;rw [e8] at o8;have R4:=D3.out.grow hg4;have f0:=R4.frozen 0;have f1:=R4.frozen 1;have f2:=R4.frozen 2;have b0:=R4.cell 0;have b1:=R4.cell 1;have b2:=R4.cell 2;simp at b0 b1 b2;have RS:=zH (SOF.store R4 (us:=[.int .i64 m.p,.slice A1 n1 s1,.slice A2 n2 s2]) rfl o8 (fun hx=>by have:=l8 _ hx;omega));have GS:=zH (Zv (gbT GW.out hg4) (Zc (w0.heap.size+1) [.int .i64 m.p,.slice A1 n1 s1,.slice A2 n2 s2] 0 w4) (by omega))
   (try simp at hd)
   simp [puts,dsts,Act.put,hd,e8];clear hd R4;go_wp2_with fail;exact ⟨rfl,.bool false,F,RS.out,fun x hx=>by have:=l8 x hx;omega,GS.out⟩
  all_goals
   intro f w4 hG hd;have hg4:=gbT (gbD (gbR w1 none)) (chgF hG);have k0:=gbk hg4 (d0);have k1:=gbk hg4 (d1);have k2:=gbk hg4 (d2)
   (try simp at hd)
   (first | simp [puts,dsts,Act.put,hd] | simp [puts,dsts,Act.put])
   clear hd;go_wp2_with fail;exact ⟨rfl,rfl⟩
 intro f w9 hI hd;simp only [puts,dsts,Act.put,zB,zC,zA,zD,zE];obtain ⟨F,hS,hl,hG⟩:=hI;obtain ⟨vs,hB,hA⟩:=hS.agg;have HA:=zH hA;have HL:=zH hl;have HG:=zH hG;clear hd hS hA hl hG d0 d1 d2;go_wp2_with fail;refine Yo Tryz.results88 (by rfl) stArith (cs:=vs.toArray) hB (by rw [List.size_toArray];exact XL HA.out) (by rfl) ?_;exact ⟨_,rfl,⟨F,HA.out,HL.out⟩,HG.out⟩
end Go.Proofs.YthaadgdeadbhkaaGreat
namespace Go.Proofs.YthaadgdeadbhkaaGreat
end Go.Proofs.YthaadgdeadbhkaaGreat
