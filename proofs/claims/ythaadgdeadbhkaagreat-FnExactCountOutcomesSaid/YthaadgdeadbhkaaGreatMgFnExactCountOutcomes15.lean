/-
 minus,valueIn,copyAuth: the program's helpers.
-/
import Derived.Test.YthaadgdeadbhkaaGreatMgFnExactCountOutcomes14
open Go.RowKit
set_option linter.unusedVariables false
set_option linter.unusedSimpArgs false
namespace Go.Proofs.YthaadgdeadbhkaaGreat
attribute [local simp] depsC dstAt kAt bindE List.filter_cons Zz Zq Zr Zs ZA ZW
theorem ZR {lo:Nat} {m:AuM}:stable (autF lo m):=fun v w w' h hg=>h.grow hg
theorem autF.rd {lo:Nat} {m:AuM} {v:Value} {w:World} (h:autF lo m v w):AggR w (cauth m) v:=by
 obtain ⟨F,h1,_⟩:=h;exact AggO.rd h1
theorem Yf {w:World} {g:Nat} {T:TypeId} {x y:Value} (h:Blk w g T #[x,y]) (a b:Value):Blk (Zm w g 0 [a,b]) g T #[a,b]:=Zd h [a,b] rfl
def minusA (k:KM) (a b:AuM):AuM:=ZD k a (Zk k b (k.p - 1))
theorem add_len {xs ys:List Int} {p:Int}:(addS p xs ys).length≤xs.length:=by unfold addS;rw [List.length_zipWith];omega
theorem Jr:awf noA:=⟨by simp [noA],by simp [noA]⟩
theorem WQ {k:KM} {a:AuM} {x:Int} (h:awf a):awf (Zk k a x):=by
 unfold Zk
 split
 ·exact ⟨by rw [XM];exact h.1,by rw [XM];exact h.2⟩
 ·exact Jr
theorem Xn {k:KM} {a b:AuM} (h:awf a):awf (ZD k a b):=by
 unfold ZD
 split
 ·exact ⟨Nat.le_trans add_len h.1,Nat.le_trans add_len h.2⟩
 ·exact Jr
theorem awf_const {k:KM} {a:AuM} {x:Int} (h:awf a):awf (ZH k a x):=by
 unfold ZH
 split
 ·exact ⟨by rw [cstS_len];exact h.1,Nat.le_trans add_len h.2⟩
 ·exact Jr
set_option maxHeartbeats 2000000 in
set_option maxRecDepth 100000 in
theorem Wk (k:KM) (a b:AuM) (kv av bv:Value) (w0:World) (h:AggR w0 (ckeys k) kv) (ha:AggR w0 (cauth a) av) (hb:AggR w0 (cauth b) bv) (wk:kwf k) (wa:awf a) (wb:awf b) (hp:1≤k.p) :
  Calls Tryz.prog 71 #[kv,av,bv] w0 fun e w'=>∃v,e=.returned v∧autF w0.heap.size (minusA k a b) v w'∧w0.grownBy w' none:=by
 obtain ⟨A,c,rfl,hc,hm,hI⟩:=ZG h;obtain ⟨Ba,da,Ca,fa,rfl,_,_,_,_,hSa,hMa⟩:=ZO ha;obtain ⟨Bb,db,Cb,fb,rfl,_,_,_,_,hSb,hMb⟩:=ZO hb;have hpw:=wk.1;obtain ⟨wp1,wp2⟩:=hpw;obtain ⟨w1,hw1⟩:∃x:World,(((w0.alloc (.cells #[.int .i64 k.p,.slice A k.al.length c] 34)).alloc (.cells #[.slice Ba a.sh.length da,.slice Ca a.mc.length fa] 80)).alloc (.cells #[.slice Bb b.sh.length db,.slice Cb b.mc.length fb] 80)).alloc (.cells #[.slice none 0 0,.slice none 0 0] 80)=x:=⟨_,rfl⟩;have G1:Hid (w0.grownBy w1 none):=by rw [← hw1];exact gbA (gbA (gbA (gbA (gbR _ _) _) _) _) _
 have z1:Hid (w1.heap.size=w0.heap.size+4):=by rw [← hw1];exact zH (by simp)
 have D0:Hid (Blk w1 w0.heap.size 34 #[.int .i64 k.p,.slice A k.al.length c]):=by rw [← hw1];exact (((Blk.new w0 _ _).grow (gbA (gbR _ _) _)).grow (gbA (gbR _ _) _)).grow (gbA (gbR _ _) _)
 have D1:Hid (Blk w1 (w0.heap.size+1) 80 #[.slice Ba a.sh.length da,.slice Ca a.mc.length fa]):=by rw [← hw1];exact ((Blk.new' _ _ _ _ (by simp)).grow (gbA (gbR _ _) _)).grow (gbA (gbR _ _) _)
 have D2:Hid (Blk w1 (w0.heap.size+1+1) 80 #[.slice Bb b.sh.length db,.slice Cb b.mc.length fb]):=by rw [← hw1];exact (Blk.new' _ _ _ _ (by simp)).grow (gbA (gbR _ _) _)
 have D3:Hid (Blk w1 (w0.heap.size+1+1+1) 80 #[.slice none 0 0,.slice none 0 0]):=by rw [← hw1];exact Blk.new' _ _ _ _ (by simp)
 have HK:=zH (AggR.grow h G1.out);have HAa:=zH (AggR.grow ha G1.out);have HAb:=zH (AggR.grow hb G1.out);have WK:=zH wk;have WA:=zH wa;have WB:=zH wb;clear h ha hb hI hSa hMa hSb hMb wk wa wb;have HFO:Hid (minusA k a b=ZD k a (Zk k b (k.p - 1))):=rfl
 go_enter Tryz.func71,Tryz.ntmps71
 go_wp2_with fail;clear hw1;obtain ⟨lo,hlo⟩:∃lo,w0.heap.size+4=lo:=⟨_,rfl⟩;obtain ⟨gR,hgR'⟩:∃g,w0.heap.size+1+1+1=g:=⟨_,rfl⟩;have hgR:gR<lo:=by omega
 have hwR:w0.heap.size≤gR:=by omega
 have hlz:lo≤w1.heap.size:=by have:=z1.out;omega
 rw [hgR'] at D3 ⊢
 refine Zg [.rd (.agg #[.int .i64 k.p,.slice A k.al.length c]),.rd (.agg #[.slice Ba a.sh.length da,.slice Ca a.mc.length fa]),.rd (.agg #[.int .i64 k.p,.slice A k.al.length c]),.rd (.agg #[.slice Bb b.sh.length db,.slice Cb b.mc.length fb]),.rd (.pointer (some ⟨w0.heap.size,0,none⟩)),.rd (.int .i64 k.p),.rd (.int .i64 (k.p - 1)),.fl (autF lo (Zk k b (k.p - 1))),.fl (autF lo (ZD k a (Zk k b (k.p - 1)))),.ch] (fun _=>False)
  [⟨[],fun _ w'=>w1.drew.grownBy w' none⟩,
   ⟨[],fun _ w'=>(∃A9 n9 c9 B9 k9 d9,autF lo (ZD k a (Zk k b (k.p - 1))) (.agg #[.slice A9 n9 c9,.slice B9 k9 d9]) w'∧Blk w' gR 80 #[.slice A9 n9 c9,.slice B9 k9 d9])∧Chg (fun y=>y=gR) w1.drew w'⟩]
  (by kernel_rfl) (by kernel_rfl) (by kernel_rfl) 1 (by kernel_rfl) ?_ (gbR _ _) rfl ?_ ?_
 ·have hst:Zw [⟨[],fun _ w'=>w1.drew.grownBy w' none⟩,
   ⟨[],fun _ w'=>(∃A9 n9 c9 B9 k9 d9,autF lo (ZD k a (Zk k b (k.p - 1))) (.agg #[.slice A9 n9 c9,.slice B9 k9 d9]) w'∧Blk w' gR 80 #[.slice A9 n9 c9,.slice B9 k9 d9])∧Chg (fun y=>y=gR) w1.drew w'⟩]:=by
   intro F hF;simp only [List.mem_cons,List.not_mem_nil,or_false] at hF
   rcases hF with rfl | rfl
   ·exact fun l w1 w2 h hg=>gbT h hg
   ·rintro l w1 w2 ⟨⟨A9,n9,c9,B9,k9,d9,h1,h2⟩,h3⟩ hg
    exact ⟨⟨A9,n9,c9,B9,k9,d9,h1.grow hg,h2.grow hg⟩,h3.trans (Chg.of hg (by simp))⟩
  simp only [flOk,true_and,and_true];exact ⟨⟨ZR,hst⟩,ZR,hst⟩
 ·simp only [hopsK,hopK,Kd.next,and_true]
  refine ⟨?_, ?_, ?_, ?_, ?_, ?_, ?_, ?_, ?_, ?_⟩;rotate_left 7
  ·intro f w4 hG hd
   have hg4:=gbT (gbD (gbR w1 none)) (chgF hG);have hz4:=hg4.size
   (try simp at hd)
   (first | simp [puts,dsts,Act.put,hd] | simp [puts,dsts,Act.put])
   clear hd;go_wp2_with fail;refine (Wj k b (k.p - 1) _ _ w4 (AggR.grow HK.out hg4) (AggR.grow HAb.out hg4) WK.out WB.out).mono ?_;rintro e w6 ⟨v6,rfl,o6,g6⟩;have O6:=zH (autF.lo o6 (show lo≤w4.heap.size by omega));have G6:=zH g6;clear o6 g6;go_wp2_with fail;exact ⟨_,rfl,O6.out,G6.out⟩
  ·intro f w4 hG hd
   have hg4:=gbT (gbD (gbR w1 none)) (chgF hG);have hz4:=hg4.size
   (try simp at hd)
   obtain ⟨e1,e2,hA⟩:=hd;obtain ⟨A7,n7,c7,B7,k7,d7,e7⟩:=autF.form hA;rw [e7] at hA;have HA7:=zH (autF.rd hA);clear hA;simp [puts,dsts,Act.put,e1,e2,e7];clear e1 e2 e7;go_wp2_with fail;refine (XO k a (Zk k b (k.p - 1)) _ _ _ w4 (AggR.grow HK.out hg4) (AggR.grow HAa.out hg4) HA7.out WK.out WA.out (WQ WB.out)).mono ?_;rintro e w6 ⟨v6,rfl,o6,g6⟩;have O6:=zH (autF.lo o6 (show lo≤w4.heap.size by omega));have G6:=zH g6;clear o6 g6;go_wp2_with fail;exact ⟨_,rfl,O6.out,G6.out⟩
  ·intro f w4 hG hI hd
   have hI:w1.drew.grownBy w4 none:=hI;have hg4:=gbT (gbD (gbR w1 none)) hI
   (try simp at hd)
   have h1:=hd.1;obtain ⟨A9,n9,c9,B9,k9,d9,e9⟩:=autF.form h1;rw [e9] at h1;have R4:=(D3.out).grow hg4;have f0:=R4.frozen 0;have f1:=R4.frozen 1;have b0:=R4.cell 0;have b1:=R4.cell 1;simp at b0 b1;have RS:=zH (Yf R4 (.slice A9 n9 c9) (.slice B9 k9 d9));have CH:=Za gR [.slice A9 n9 c9,.slice B9 k9 d9] 0 w4;have AS:=zH (h1.chg CH hgR);have CS:=zH ((Chg.of (S:=fun y=>y=gR) hI (by simp)).trans CH);clear R4 h1 hI CH hd;simp [puts,dsts,Act.put,e9];go_wp2_with fail;exact ⟨rfl,.bool false,⟨A9,n9,c9,B9,k9,d9,AS.out,RS.out⟩,CS.out⟩
  all_goals
   intro f w4 hG hd;have hg4:=gbT (gbD (gbR w1 none)) (chgF hG);have k0:=(D0.out.grow hg4).cell 0;have k1:=(D0.out.grow hg4).cell 1;have a0:=(D1.out.grow hg4).cell 0;have a1:=(D1.out.grow hg4).cell 1;have b0:=(D2.out.grow hg4).cell 0;have b1:=(D2.out.grow hg4).cell 1;simp at k0 k1 a0 a1 b0 b1
   (try simp at hd)
   (first | simp [puts,dsts,Act.put,hd] | simp [puts,dsts,Act.put])
   clear hd;go_wp2_with fail;exact ⟨rfl,rfl⟩
 intro f w9 hI hd;obtain ⟨⟨A9,n9,c9,B9,k9,d9,hAU,hBR⟩,hCZ⟩:=hI;have hCZ:=chgDr hCZ;simp only [puts,dsts,Act.put,zB,zC,zA,zD,zE];clear hd;have GZ:=zH (Zu G1.out hCZ hwR);go_wp2_with fail;refine YJ Tryz.results71 (by rfl) stAuth (cs:=#[.slice A9 n9 c9,.slice B9 k9 d9]) hBR (by rfl) (by rfl) ?_;exact ⟨_,rfl,by rw [HFO.out];exact autF.lo hAU (by omega),GZ.out⟩
end Go.Proofs.YthaadgdeadbhkaaGreat
namespace Go.Proofs.YthaadgdeadbhkaaGreat
structure TrM where
 a:AuM
 b:AuM
 c:AuM
abbrev YA (m:TrM):List CS:=cauth m.a ++ (cauth m.b ++ cauth m.c)
def twf (m:TrM):Prop:=awf m.a∧awf m.b∧awf m.c
theorem RdAll.split {w:World} {cs ds:List CS} {vs:List Value} (h:RdAll w (cs ++ ds) vs):∃us ts,vs=us ++ ts∧RdAll w cs us∧RdAll w ds ts:=by
 refine ⟨vs.take cs.length,vs.drop cs.length,(List.take_append_drop _ _).symm,⟨?_,fun i c v hc hv => ?_⟩, ?_,fun i c v hc hv => ?_⟩
 ·have:=h.1;simp at this ⊢;omega
 ·have hi:=(List.getElem?_eq_some_iff.1 hc).1
  rw [List.getElem?_take,if_pos hi] at hv;exact h.2 i c v (by rw [List.getElem?_append_left hi];exact hc) hv
 ·have:=h.1;simp at this ⊢;omega
 ·rw [List.getElem?_drop] at hv
  exact h.2 _ c v (by rw [List.getElem?_append_right (by omega),Nat.add_sub_cancel_left];exact hc) hv
theorem XX {w:World} {m:TrM} {v:Value} (h:AggR w (YA m) v):∃A a B b C c D d E e F f,v=.agg #[.slice A m.a.sh.length a,.slice B m.a.mc.length b,.slice C m.b.sh.length c,.slice D m.b.mc.length d,.slice E m.c.sh.length e,.slice F m.c.mc.length f] ∧
  AggR w (cauth m.a) (.agg #[.slice A m.a.sh.length a,.slice B m.a.mc.length b])∧AggR w (cauth m.b) (.agg #[.slice C m.b.sh.length c,.slice D m.b.mc.length d])∧AggR w (cauth m.c) (.agg #[.slice E m.c.sh.length e,.slice F m.c.mc.length f]):=by
 obtain ⟨vs,rfl,h⟩:=h;obtain ⟨u,t,rfl,h1,h⟩:=RdAll.split h;obtain ⟨y,z,rfl,h2,h3⟩:=RdAll.split h;obtain ⟨A,a,B,b,e1,_⟩:=ZO ⟨u,rfl,h1⟩;obtain ⟨C,c,D,d,e2,_⟩:=ZO ⟨y,rfl,h2⟩;obtain ⟨E,e,F,f,e3,_⟩:=ZO ⟨z,rfl,h3⟩;injection e1 with e1;injection e2 with e2;injection e3 with e3;have e1:u=[.slice A m.a.sh.length a,.slice B m.a.mc.length b]:=by have:=congrArg Array.toList e1;simpa using this
 have e2:y=[.slice C m.b.sh.length c,.slice D m.b.mc.length d]:=by have:=congrArg Array.toList e2;simpa using this
 have e3:z=[.slice E m.c.sh.length e,.slice F m.c.mc.length f]:=by have:=congrArg Array.toList e3;simpa using this
 subst e1;subst e2;subst e3;exact ⟨A,a,B,b,C,c,D,d,E,e,F,f,rfl,⟨_,rfl,h1⟩,⟨_,rfl,h2⟩,⟨_,rfl,h3⟩⟩
theorem VY {w:World} {cs:List CS} {vs:List Value} (h:AggR w cs (.agg vs.toArray)):RdAll w cs vs:=by
 obtain ⟨us,e,h⟩:=h;injection e with e;have e:us=vs:=by have:=congrArg Array.toList e;simpa using this.symm
 exact e ▸ h
theorem Uk {w:World} (xs:List AuM) (vs:List Value) (n:Nat) (h:RdAll w (xs.flatMap cauth) vs) (hn:xs.length=n) (hm:n≤100) :
  (cauths xs).rd (w.alloc (.cells vs.toArray 80)) (.slice (some ⟨w.heap.size,0,none⟩) n n):=by
 have hl:vs.length=n*2:=by rw [h.1,YT (sz:=2) (fun _=>rfl),hn]
 refine lst_mk (s:=2) (vs:=vs) (fun _=>rfl) hn (Nat.le_refl _) (by unfold maxLen;omega) (h.grow (gbA (gbR w none) _)) ⟨hl,fun _=>⟨w.heap.size,0,rfl,by simp,fun j hj => ?_⟩⟩;rw [Nat.zero_add,cell_of_row _ _ j _ _ (0,0) (heap_alloc_new w _)];simp
theorem Ka {w:World} {xs:List Int} {F:List Nat} {v:Value} (h:(cints xs).own w F v):∀x∈F,∃cur z,w.heap[x]?=some (.cells cur 3 z):=by
 obtain ⟨n,vs,Fs,h1,h2,h3,h4,h5⟩:=h;rw [Ud] at h3;rw [Qv h3,List.append_nil] at h4;intro x hx;rw [h4] at hx;have hx:v.ownBlock=some x:=by simpa using hx
 rcases h2.2 with ⟨e,_⟩ | ⟨g,cap,cur,hv,_,hg,_⟩
 ·rw [e] at hx;cases hx
 ·rw [hv] at hx
  have:g=x:=by simpa [Value.ownBlock] using hx
  subst this;exact ⟨_,_,hg⟩
theorem autF.far {lo g:Nat} {m:AuM} {v:Value} {w w':World} {T:TypeId} {cs:Array Value} (h:autF lo m v w) (B:Blk w g T cs) (k:Chg (fun y=>y=g) w w') (hT:3≠T:=by decide):autF lo m v w':=by
 obtain ⟨F,h1,h2⟩:=h;refine ⟨F,h1.chg k (fun x hx (e:x=g) => ?_),h2⟩;subst e;obtain ⟨u0,u1,F0,F1,_,rfl,o0,o1,_⟩:=Ui h1
 have:∃cur z,w.heap[x]?=some (.cells cur 3 z):=by
  simp at hx
  rcases hx with hx | hx
  ·exact Ka o0 x hx
  ·exact Ka o1 x hx
 obtain ⟨cur,z,hc⟩:=this;unfold Blk at B;rw [B] at hc;injection hc with hc;injection hc with _ h3 _;exact hT h3.symm
def authBox (W lo:Nat) (m:AuM) (v:Value) (w:World):Prop:=∃g9 A9 n9 c9 B9 k9 d9,v=.pointer (some ⟨g9,0,none⟩)∧W≤g9∧autF lo m (.agg #[.slice A9 n9 c9,.slice B9 k9 d9]) w∧Blk w g9 80 #[.slice A9 n9 c9,.slice B9 k9 d9]
def ZJ (k:KM) (x:TrM) (d e:Int):AuM:=if (formB k x.a&&formB k x.b&&formB k x.c)&&(elemB k.p d&&elemB k.p e) then ZH k (ZD k (ZD k x.c (Zk k x.b d)) (Zk k x.a e)) ((d*e) % k.p) else noA
def hop6 (P:Program) (ops:Array Oper) (T:List Fact) (W:World) (a0:Act) (touch:List (Nat × Nat)) (o:Oper) (k:Nat):Prop :=
 ∀(f:Tmp→Value) (w:World),Chg (fun b=>∃s,(s,b)∈touch) W w→(∀b,b<W.heap.size→(∀s,(s,b)∈touch→aheadB ops s k=true)→w.heap[b]?=W.heap[b]?)→(∀d,oldB ops k d=true→d∈dsts ops→f d=a0.tmps.getD d undef)→depsF T f w (bindE o) →
  wpList P ops (Only fun a' w'=>∃v,a'=(puts a0 (dsts ops) f).put o.dst v∧(fAt T k).at_ (upd f o.dst v) w'∧(w.grownBy w' none∨(Chg (fun b=>W.heap.size≤b∨(k,b)∈touch) w w'∧keeps f w w' k T 0))) [o] (puts a0 (dsts ops) f) w
def hops6 (P:Program) (ops:Array Oper) (T:List Fact) (W:World) (a0:Act) (touch:List (Nat × Nat)):List Oper→Nat→Prop
 | [],_=>True
 | o :: l,k=>hop6 P ops T W a0 touch o k∧hops6 P ops T W a0 touch l (k+1)
theorem hops6_at {P:Program} {ops:Array Oper} {T:List Fact} {W:World} {a0:Act} {touch:List (Nat × Nat)}:∀{l:List Oper} {k i:Nat} {o:Oper},hops6 P ops T W a0 touch l k→l[i]?=some o→hop6 P ops T W a0 touch o (k+i)
 | [],_,_,_,_,h=>by simp at h
 | x :: l,k,0,o,h,hi=>by simp at hi;subst hi;exact h.1
 | x :: l,k,i+1,o,h,hi=>by
  simp at hi;have:=hops6_at (k:=k+1) (i:=i) h.2 hi
  rwa [show k+1+i=k+(i+1) by omega] at this
structure GInv6 (ops:Array Oper) (T:List Fact) (W:World) (a0:Act) (touch:List (Nat × Nat)) (listed:Array Bool) (a:Act) (w:World):Prop where
 g:Chg (fun b=>∃s,(s,b)∈touch) W w
 pre:∀b,b<W.heap.size→(∀s,(s,b)∈touch→listed.getD s false=false)→w.heap[b]?=W.heap[b]?
 old:∀i o d,ops[i]?=some o→o.dst=some d→listed.getD i false=false→a.tmps.getD d undef=a0.tmps.getD d undef
 sz:listed.size=ops.size
 tz:a.tmps.size=a0.tmps.size
 df:a.defers=a0.defers
 out:∀t,t∉dsts ops→a.tmps[t]?=a0.tmps[t]?
 facts:∀k o,ops[k]?=some o→listed.getD k false=true→(fAt T k).at_ (fun d=>a.tmps.getD d undef) w
 closed:∀k o,ops[k]?=some o→listed.getD k false=true→∀e∈bindE o,listed.getD e.on false=true
section
variable {P:Program} {ops:Array Oper} {T:List Fact} {W:World} {a0:Act} {touch:List (Nat × Nat)} {Q:Exit→Act→World→Prop}
theorem GInv6.step {listed:Array Bool} {a:Act} {w:World} (K:RegOk ops T) (hsz:∀d∈dsts ops,d<a0.tmps.size) (hst:Zw T) (h:GInv6 ops T W a0 touch listed a w) {i:Nat} {o:Oper} (hi:ops[i]?=some o)
  (hun:listed.getD i false=false) (hwait:∀e∈bindE o,listed.getD e.on false=true) {v:Value} {w':World} (hv:(fAt T i).at_ (upd (fun d=>a.tmps.getD d undef) o.dst v) w')
  (hg:w.grownBy w' none∨(Chg (fun b=>W.heap.size≤b∨(i,b)∈touch) w w'∧keeps (fun d=>a.tmps.getD d undef) w w' i T 0)):GInv6 ops T W a0 touch (listed.setIfInBounds i true) (a.put o.dst v) w':=by
 have hdlt:∀d,o.dst=some d→d<a.tmps.size:=fun d hd=>by rw [h.tz];exact hsz d (YM hi hd)
 have hil:i<listed.size:=by rw [h.sz];exact (Array.getElem?_eq_some_iff.1 hi).1
 have lset:∀k,k≠i→(listed.setIfInBounds i true).getD k false=listed.getD k false:=fun k hk=>by
  simp only [Array.getD_eq_getD_getElem?,Array.getElem?_setIfInBounds,Ne.symm hk,if_false]
 have lold:∀k,listed.getD k false=true→(listed.setIfInBounds i true).getD k false=true:=fun k hk=>by
  by_cases e:k=i
  ·subst e;simp [hil]
  ·rw [lset k e];exact hk
 have hf:(fun d=>(a.put o.dst v).tmps.getD d undef)=upd (fun d=>a.tmps.getD d undef) o.dst v:=by
  funext t;exact Vd a o.dst v t hdlt
 refine ⟨?_,fun b hbW hs => ?_,fun j oj d hj hd hl => ?_,by simp [h.sz], ?_, ?_,fun t ht => ?_,fun k ok hk hl => ?_,fun k ok hk hl e he => ?_⟩
 ·rcases hg with hg | ⟨hg,_⟩
  ·exact h.g.trans (Chg.of hg fun g hg'=>by simp at hg')
  ·refine ⟨hg.os.trans h.g.os,hg.tape.trans h.g.tape,hg.output.trans h.g.output,Nat.le_trans h.g.size hg.size,fun b hb hs => ?_⟩
   rw [hg.block b (Nat.lt_of_lt_of_le hb h.g.size) fun hs' => ?_,h.g.block b hb hs]
   rcases hs' with h1 | h1
   ·omega
   ·exact hs ⟨i,h1⟩
 ·have hb':∀s,(s,b)∈touch→listed.getD s false=false:=fun s hs'=>by
   have h1:=hs s hs'
   cases hl:listed.getD s false with
   | false=>rfl
   | true=>rw [lold s hl] at h1;cases h1
  have hib:(i,b)∉touch:=fun hi'=>by have h1:=hs i hi';simp [hil] at h1
  have h0:=h.pre b hbW hb';have hbw:b<w.heap.size:=Nat.lt_of_lt_of_le hbW h.g.size
  rcases hg with hg | ⟨hg,_⟩
  ·exact (hg.block b hbw (by simp)).trans h0
  ·refine (hg.block b hbw fun hs' => ?_).trans h0
   rcases hs' with h1 | h1
   ·omega
   ·exact hib h1
 ·have hji:j≠i:=fun e=>by subst e;simp [hil] at hl
  rw [lset j hji] at hl;have hne:o.dst≠some d:=fun hd'=>Ym K.nodup (l:=ops.toList) (i:=j) (j:=i) (by simpa using hj) (by simpa using hi) hji hd hd';have h9:(a.put o.dst v).tmps.getD d undef=upd (fun d=>a.tmps.getD d undef) o.dst v d:=congrFun hf d;rw [h9,Xi _ _ _ _ hne];exact h.old j oj d hj hd hl
 ·rw [← h.tz];cases o.dst <;> simp [Act.put]
 ·rw [← h.df];cases o.dst <;> rfl
 ·rw [← h.out t ht]
  cases hd:o.dst with
  | none=>rfl
  | some d =>
   have:d≠t:=fun e=>ht (e ▸ YM hi hd);simp [Act.put,this]
 ·rw [hf]
  by_cases hik:k=i
  ·subst hik
   exact hv
  ·rw [lset k hik] at hl
   have hold:=h.facts k ok hk hl
   have hne:∀t∈(fAt T k).ts,o.dst≠some t:=fun t ht hd=>by
    rcases K.sup k ok hk t ht with h1 | ⟨e,he,o',ho',hd'⟩
    ·exact Ym K.nodup (l:=ops.toList) (i:=k) (j:=i) (by simpa using hk) (by simpa using hi) hik h1 hd
    ·have h2:=h.closed k ok hk hl e he
     have h3:e.on≠i:=fun x=>by rw [x,hun] at h2;cases h2
     exact Ym K.nodup (l:=ops.toList) (i:=e.on) (j:=i) (by simpa using ho') (by simpa using hi) h3 hd' hd
   have hmap:(fAt T k).ts.map (upd (fun d=>a.tmps.getD d undef) o.dst v)=(fAt T k).ts.map (fun d=>a.tmps.getD d undef):=List.map_congr_left fun t ht=>Xi _ _ _ _ (hne t ht);unfold Fact.at_;rw [hmap]
   rcases hg with hg | ⟨_,hk2⟩
   ·exact Xr hst k _ _ _ hold hg
   ·cases hT:T[k]? with
    | none=>unfold fAt;rw [hT];trivial
    | some F =>
     have e:fAt T k=F:=by unfold fAt;rw [hT];rfl
     rw [e] at hold ⊢;exact VB hk2 hT (by omega) hold
 ·by_cases hik:k=i
  ·subst hik
   obtain rfl:ok=o:=by rw [hi] at hk;injection hk with hk;exact hk.symm
   exact lold _ (hwait e he)
  ·rw [lset k hik] at hl
   exact lold _ (h.closed k ok hk hl e he)
theorem GInv6.is {listed:Array Bool} {a:Act} {w:World} (h:GInv6 ops T W a0 touch listed a w):a=puts a0 (dsts ops) (fun d=>a.tmps.getD d undef):=Ub h.tz h.df h.out
theorem GInv6.old_ {listed:Array Bool} {a:Act} {w:World} (h:GInv6 ops T W a0 touch listed a w) {k d:Nat} (hk:listed.getD k false=false) (ho:oldB ops k d=true) (hd:d∈dsts ops):a.tmps.getD d undef=a0.tmps.getD d undef:=by
 unfold dsts at hd;obtain ⟨o,ho',hd'⟩:=List.mem_filterMap.1 hd;obtain ⟨i,hi⟩:=List.mem_iff_getElem?.1 ho';have hi':ops[i]?=some o:=by simpa using hi
 refine h.old i o d hi' hd' (Vg h.closed hk ?_);have:=List.all_eq_true.1 ho (o,i) (by rw [List.mem_zipIdx_iff_getElem?];simpa using hi')
 simpa [hd'] using this
theorem reg6_any (K:RegOk ops T) (hsz:∀d∈dsts ops,d<a0.tmps.size) (hst:Zw T) (hh:hops6 P ops T W a0 touch ops.toList 0)
  (fin:∀(f:Tmp→Value) (w:World),Chg (fun b=>∃s,(s,b)∈touch) W w→knowsF T f w T→Q .normal (puts a0 (dsts ops) f) w) :
  ∀(fuel:Nat) (listed:Array Bool) (a:Act) (w:World),GInv6 ops T W a0 touch listed a w→listed.toList.countP (fun b=>!b)≤fuel→wpAny P .any ops Q fuel listed a w:=by
 have done:∀(listed:Array Bool) (a:Act) (w:World),GInv6 ops T W a0 touch listed a w→Region.ready .any ops listed=[]→Q .normal a w:=fun listed a w h hr=>by
  rw [h.is];refine fin _ w h.g (Ux fun F hF => ?_);obtain ⟨k,hk⟩:=List.mem_iff_getElem?.1 hF;have hkl:k<ops.size:=Nat.lt_of_lt_of_le (List.getElem?_eq_some_iff.1 hk).1 K.len;have:=h.facts k ops[k] (Array.getElem?_eq_getElem hkl) (YN K h.sz hr (k+1) k (by omega) hkl);unfold fAt at this;rw [hk] at this;exact this
 intro fuel
 induction fuel with
 | zero =>
  intro listed a w h hc
  have hr:Region.ready .any ops listed=[]:=by
   cases hr:Region.ready .any ops listed with
   | nil=>rfl
   | cons i l =>
    exfalso
    have hi:=(mem_ready.1 (show i∈Region.ready .any ops listed by rw [hr];exact List.mem_cons_self ..)).1;have h0:listed.toList.countP (fun b=>!b)=0:=by omega
    rw [List.countP_eq_zero] at h0
    have hlt:i<listed.size:=by
     rcases Nat.lt_or_ge i listed.size with h1 | h1
     ·exact h1
     ·simp [Array.getElem?_eq_none h1] at hi
    have hv:listed[i]=false:=by simpa [hlt] using hi
    have:=h0 listed[i] (Array.getElem_mem_toList hlt);simp [hv] at this
  exact ⟨hr,done listed a w h hr⟩
 | succ fuel ih =>
  intro listed a w h hc;refine ⟨fun hr=>done listed a w h hr,fun i hi => ?_⟩;obtain ⟨hl,o,ho,hall⟩:=mem_ready.1 hi
  have hwait:∀e∈bindE o,listed.getD e.on false=true:=fun e he=>by
   obtain ⟨h1,h2⟩:=bind_mem.1 he;exact hall e (by simpa using h1) h2
  have hun:listed.getD i false=false:=by
   have hlt:i<listed.size:=by rw [h.sz];exact (Array.getElem?_eq_some_iff.1 ho).1
   simp [hlt] at hl ⊢;exact hl
  have hop:=hops6_at hh (i:=i) (by simpa using ho);rw [Nat.zero_add] at hop
  have h1:=hop (fun d=>a.tmps.getD d undef) w h.g (fun b hb hs=>h.pre b hb fun s hs'=>Vg h.closed hun (hs s hs')) (fun d hd hm=>h.old_ hun hd hm) (QW fun e he=>by
   have h2:=hwait e he;have h3:=K.early i o ho e he;have h4:e.on<ops.size:=by have:=(Array.getElem?_eq_some_iff.1 ho).1;omega
   exact h.facts e.on _ (Array.getElem?_eq_getElem h4) h2)
  rw [← h.is] at h1;unfold wpOp;simp only [ho]
  have next:∀a' w',(∃v,a'=a.put o.dst v∧(fAt T i).at_ (upd (fun d=>a.tmps.getD d undef) o.dst v) w'∧(w.grownBy w' none∨(Chg (fun b=>W.heap.size≤b∨(i,b)∈touch) w w'∧keeps (fun d=>a.tmps.getD d undef) w w' i T 0)))→wpAny P .any ops Q fuel (listed.setIfInBounds i true) a' w':=fun a' w' ⟨v,ha,hv,hg⟩=>by
   subst ha;exact ih _ _ _ (h.step K hsz hst ho hun hwait hv hg) (Ww hc hl)
  unfold wpList at h1
  split
  ·rename_i hw
   rw [if_pos hw] at h1
   rcases h1 with h1 | h1
   ·exact .inl (We (Oper.wp_mono next h1))
   ·exact (XI h1.2).elim
  ·rename_i hw
   rw [if_neg hw] at h1;exact next _ _ h1
theorem Xz {id:Nat} {w:World} (T:List Fact) (touch:List (Nat × Nat)) (hm:P.follows .mixedOrders=true) (hB:regB ops (T.map (·.ts))=true) (hsz:(dsts ops).all (fun d=>d<a0.tmps.size)=true) (hst:Zw T)
  (hh:hops6 P ops T w.drew a0 touch ops.toList 0)
  (fin:∀(f:Tmp→Value) (w':World),Chg (fun b=>∃s,(s,b)∈touch) w.drew w'→knowsF T f w' T→Q .normal (puts a0 (dsts ops) f) w'):(Code.region id ops true).wp P Q a0 w:=by
 refine wp_region_any hm (reg6_any (W:=w.drew) (T:=T) (RegOk.of hB) (fun d hd=>by simpa using List.all_eq_true.1 hsz d hd) hst hh fin ops.size _ a0 _ ⟨Chg.refl _ _,fun _ _ _=>rfl,fun _ _ _ _ _ _=>rfl,by simp,rfl,rfl,fun _ _=>rfl, ?_, ?_⟩ ?_)
 ·intro k o hk hl
  simp only [Array.getD_eq_getD_getElem?,Array.getElem?_replicate] at hl
  split at hl <;> simp at hl
 ·intro k o hk hl
  simp only [Array.getD_eq_getD_getElem?,Array.getElem?_replicate] at hl
  split at hl <;> simp at hl
 ·have:=List.countP_le_length (p:=fun b:Bool=>!b) (l:=(Array.replicate ops.size false).toList)
  simpa using this
end
end Go.Proofs.YthaadgdeadbhkaaGreat
