/-
 l28Copy of the reference.
-/
import Derived.Test.YthaadgdeadbhkaaGreatMgFnExactEngineRound38
open Go.RowKit
set_option linter.unusedVariables false
set_option linter.unusedSimpArgs false
namespace Go.Proofs.YthaadgdeadbhkaaGreat
def blks:Value→List Nat
 | .agg vs=>vs.toList.flatMap fun u=>u.ownBlock.toList
 | v=>v.ownBlock.toList
def apB (v u:Value):Prop:=∀g∈blks v,g∉blks u
def keyO (lo:Nat) (k:KM) (v:Value) (w:World):Prop:=∃A c,v=.agg #[.int .i64 k.p,.slice A k.al.length c]∧w.ownsRow lo 3 1 (.slice A k.al.length c) k.al.length (k.al.map (Value.int .i64))
def arO (lo:Nat) (m:AM) (v:Value) (w:World):Prop:=∃A c B d,v=.agg #[.int .i64 m.p,.slice A m.st.length c,.slice B m.outs.length d]∧w.ownsRow lo 102 3 (.slice A m.st.length c) m.st.length (m.st.flatMap c3)∧w.ownsRow lo 3 1 (.slice B m.outs.length d) m.outs.length (m.outs.map (Value.int .i64))
theorem keyO_st {lo:Nat} {k:KM}:stable (keyO lo k):=fun v w w' ⟨A,c,h1,h2⟩ hg=>⟨A,c,h1,Zu h2 hg⟩
theorem arO_st {lo:Nat} {m:AM}:stable (arO lo m):=fun v w w' ⟨A,c,B,d,h1,h2,h3⟩ hg=>⟨A,c,B,d,h1,Zu h2 hg,Zu h3 hg⟩
theorem row1_st' {lo n:Nat} {L:List Int}:stable (row1 lo n L):=fun v w w' h hg=>h.grow hg
theorem keyO.of {lo:Nat} {k:KM} {v:Value} {w:World} (h:aggF lo (ckeys k) v w):keyO lo k v w:=by
 obtain ⟨F,h1,h2⟩:=h;obtain ⟨u1,F1,rfl,rfl,o1⟩:=Wd h1;obtain ⟨A,c,rfl,rfl,hr⟩:=Wk o1;exact ⟨A,c,rfl,hr lo (fun g hg=>h2 g (by simpa using hg))⟩
theorem arO.of {lo:Nat} {m:AM} {v:Value} {w:World} (h:aggF lo (carith m) v w):arO lo m v w:=by
 obtain ⟨F,h1,h2⟩:=h;obtain ⟨u1,u2,F1,F2,rfl,rfl,o1,o2,d⟩:=XI h1;obtain ⟨A,c,rfl,rfl,hr⟩:=Wu (s:=3) (fun _=>rfl) (by omega) o1;obtain ⟨B,e,rfl,rfl,hs⟩:=Wk o2;exact ⟨A,c,B,e,rfl,hr lo (fun g hg=>h2 g (by simp [hg])),hs lo (fun g hg=>h2 g (by simp [hg]))⟩
theorem keyO.typ {lo:Nat} {k:KM} {v:Value} {w w':World} {S:Nat→Prop} (h:keyO lo k v w) (q:Chg S w w') (hS:∀g,S g→g<w.heap.size→∃T us,Blk w g T us∧T≠3):keyO lo k v w':=by
 obtain ⟨A,c,e,h1⟩:=h;exact ⟨A,c,e,Ub h1 q hS⟩
theorem arO.typ {lo:Nat} {m:AM} {v:Value} {w w':World} {S:Nat→Prop} (h:arO lo m v w) (q:Chg S w w') (hS:∀g,S g→g<w.heap.size→∃T us,Blk w g T us∧T≠3∧T≠102):arO lo m v w':=by
 obtain ⟨A,c,B,d,e,h1,h2⟩:=h;refine ⟨A,c,B,d,e,Ub h1 q (fun g a b => ?_),Ub h2 q (fun g a b => ?_)⟩
 ·obtain ⟨T,us,hB,_,h4⟩:=hS g a b;exact ⟨T,us,hB,h4⟩
 ·obtain ⟨T,us,hB,h3,_⟩:=hS g a b;exact ⟨T,us,hB,h3⟩
theorem blks_agg2 (x:Int) (A:Option Addr) (n c:Nat):blks (.agg #[.int .i64 x,.slice A n c])=(Value.slice A n c).ownBlock.toList:=by simp [blks,Value.ownBlock]
theorem blks_agg3 (x:Int) (A B:Option Addr) (n c m d:Nat):blks (.agg #[.int .i64 x,.slice A n c,.slice B m d])=(Value.slice A n c).ownBlock.toList ++ (Value.slice B m d).ownBlock.toList:=by simp [blks,Value.ownBlock]
theorem Uc (A:Option Addr) (n c:Nat):blks (.slice A n c)=(Value.slice A n c).ownBlock.toList:=rfl
theorem keyO.blks {lo:Nat} {k:KM} {v:Value} {w:World} (h:keyO lo k v w):∀g∈blks v,lo≤g∧g<w.heap.size:=by
 obtain ⟨A,c,rfl,h1⟩:=h;rw [blks_agg2];intro g hg;exact h1.lt g (by simpa using hg)
theorem arO.blks {lo:Nat} {m:AM} {v:Value} {w:World} (h:arO lo m v w):∀g∈blks v,lo≤g∧g<w.heap.size:=by
 obtain ⟨A,c,B,d,rfl,h1,h2⟩:=h;rw [blks_agg3];intro g hg
 rcases List.mem_append.1 hg with hg | hg
 ·exact h1.lt g (by simpa using hg)
 ·exact h2.lt g (by simpa using hg)
theorem row1.blks {lo n:Nat} {L:List Int} {v:Value} {w:World} (h:row1 lo n L v w):∀g∈blks v,lo≤g∧g<w.heap.size:=by
 obtain ⟨A,c,rfl,h1⟩:=h;rw [Uc];intro g hg;exact h1.lt g (by simpa using hg)
theorem emptyS.blks {lo:Nat} {v:Value} {w:World} (h:emptyS lo v w):∀g∈blks v,lo≤g∧g<w.heap.size:=by
 obtain ⟨g',rfl,hl,hB,_⟩:=h;rw [Uc];intro g hg;have:=hB.lt;simp [Value.ownBlock] at hg;omega
theorem blks_sl' {v:Value} (g n c:Nat):apB v (.slice (some ⟨g,0,none⟩) n c)=∀y∈blks v,y∉[g]:=by
 unfold apB;rw [Uc];rfl
theorem blk_ne9 {w:World} {g h:Nat} {T U:TypeId} {cs ds:Array Value} (B:Blk w g T cs) (D:Blk w h U ds) (hT:T≠U):g≠h:=by
 intro e;subst e;unfold Blk at B D;rw [B] at D;injection D with D;injection D with _ h2 _;exact hT h2
theorem aggF.far9 {lo g:Nat} {m:EM} {v:Value} {w w':World} {T:TypeId} {cs:Array Value} (h:aggF lo (Zd m) v w) (B:Blk w g T cs) (k:Chg (fun y=>y=g) w w') (hT:T∉[3,102,80]):aggF lo (Zd m) v w':=by
 obtain ⟨F,h1,h2⟩:=h;have hg:=Qw (Xx m) h1 B hT;exact ⟨F,h1.chg k (fun x hx e=>hg (e ▸ hx)),h2⟩
theorem apB_up {v u:Value} {n:Nat} (h:∀g∈blks v,n≤g) (k:∀g∈blks u,g<n):apB v u:=fun g h1 h2=>by
 have:=h g h1;have:=k g h2;omega
theorem apB_dn {v u:Value} {n:Nat} (h:∀g∈blks v,g<n) (k:∀g∈blks u,n≤g):apB v u:=fun g h1 h2=>by
 have:=h g h1;have:=k g h2;omega
theorem eng_own {lo:Nat} {m:EM} {w:World} {x y z:Value} (h1:keyO lo m.k x w) (h2:arO lo m.c y w) (h3:row1 lo m.op.length m.op z w) (a1:apB x y) (a2:apB x z) (a3:apB y z) :
  ∃A c B d C e E i,x=.agg #[.int .i64 m.k.p,.slice A m.k.al.length c]∧y=.agg #[.int .i64 m.c.p,.slice B m.c.st.length d,.slice C m.c.outs.length e]∧z=.slice E m.op.length i ∧
   aggF lo (Zd m.noV) (.agg #[.int .i64 m.k.p,.slice A m.k.al.length c,.int .i64 m.c.p,.slice B m.c.st.length d,.slice C m.c.outs.length e,.slice none 0 0,.slice E m.op.length i,.int .i64 m.rd,.bool m.bad]) w:=by
 obtain ⟨A,c,rfl,o1⟩:=h1;obtain ⟨B,d,C,e,rfl,o2,o3⟩:=h2;obtain ⟨E,i,rfl,o4⟩:=h3;refine ⟨A,c,B,d,C,e,E,i,rfl,rfl,rfl, ?_⟩;unfold apB at a1 a2 a3;rw [blks_agg2] at a1 a2;rw [blks_agg3] at a1 a3;rw [Uc] at a2 a3;have p1:=Yi o1;have p2:=Xl (f:=c3) (xs:=m.c.st) (s:=3) (fun _=>rfl) (by omega) Uh o2;have p3:=Yi o3;have p4:=Yi o4;refine ⟨_,⟨_,_,rfl,OwnAll.cons (WW _ _) (OwnAll.cons p1 (OwnAll.cons (WW _ _) (OwnAll.cons p2 (OwnAll.cons p3 (OwnAll.cons (cauths_nil w) (OwnAll.cons p4 (OwnAll.cons (WW _ _) (OwnAll.cons (cb_own _ _) (OwnAll.nil _) (by simp)) (by simp)) (by simp)) (by simp)) (fun g hg=>by simpa using fun h=>a3 g (List.mem_append_right _ hg) (by simpa using h))) (fun g hg => ?_)) (by simp)) (fun g hg => ?_)) (by simp),rfl⟩,fun g hg => ?_⟩
 ·have h5:=a3 g (List.mem_append_left _ hg)
  have h6:=a1;simp only [List.flatten_cons,List.flatten_nil,List.append_nil,List.nil_append,List.mem_append,not_or];refine ⟨fun h => ?_,h5⟩;obtain ⟨c1,T1,z1,e1,t1⟩:=Yv (Ts:=[102]) (by simp) w _ _ p2 g hg;obtain ⟨c2,T2,z2,e2,t2⟩:=Yv (Ts:=[3]) (by simp) w _ _ p3 g h;rw [e1] at e2;injection e2 with e2;injection e2 with _ e3 _;simp at t1 t2;rw [t1,t2] at e3;exact absurd e3 (by decide)
 ·simp only [List.flatten_cons,List.flatten_nil,List.append_nil,List.nil_append,List.mem_append,not_or]
  have h5:=a1 g hg;rw [List.mem_append,not_or] at h5;exact ⟨h5.1,h5.2,a2 g hg⟩
 ·simp only [List.flatten_cons,List.flatten_nil,List.append_nil,List.nil_append,List.mem_append] at hg
  rcases hg with hg | hg | hg | hg
  ·exact (o1.lt g (by simpa using hg)).1
  ·exact (o2.lt g (by simpa using hg)).1
  ·exact (o3.lt g (by simpa using hg)).1
  ·exact (o4.lt g (by simpa using hg)).1
attribute [local simp] depsC dstAt kAt bindE List.filter_cons Zy Zp Zq Zr Zz Yu puts dsts Act.put
def box9 (lo:Nat) (v:Value) (w:World):Prop:=∃g u0 u1 u2 u3 u4 u5 u6 u7 u8,v=.pointer (some ⟨g,0,none⟩)∧lo≤g∧Blk w g 58 #[u0,u1,u2,u3,u4,u5,u6,u7,u8]
theorem box9_st {lo:Nat}:stable (box9 lo):=fun v w w' ⟨g,u0,u1,u2,u3,u4,u5,u6,u7,u8,h1,h2,h3⟩ hg=>⟨g,u0,u1,u2,u3,u4,u5,u6,u7,u8,h1,h2,h3.grow hg⟩
theorem eng0_st {lo:Nat} {m:EM}:stable (eng0 lo m):=fun v w w' h hg=>h.grow hg
def TCE (Wn lo gK:Nat) (m:EM) (kv cv ov:Value):List Fact :=
  [onT 5 (isV (.pointer (some ⟨gK,0,none⟩))),onT 6 (isV kv),onT 7 (keyO lo m.k),onT 8 (isV (.pointer (some ⟨gK,2,none⟩))),onT 9 (isV cv),onT 10 (arO lo m.c),onT 11 (emptyS lo),onT 12 (isV (.pointer (some ⟨gK,6,none⟩))),onT 13 (isV ov),onT 14 (row1 lo m.op.length m.op),
   onT 15 (isV (.pointer (some ⟨gK,7,none⟩))),onT 16 (isV (.int .i64 m.rd)),onT 17 (isV (.pointer (some ⟨gK,8,none⟩))),onT 18 (isV (.bool m.bad)),onT 19 (eng0 lo m),onT 3 (box9 Wn),
   ⟨[3],fun l w=>∃g,l.getD 0 undef=.pointer (some ⟨g,0,none⟩)∧Wn≤g∧sofF lo 58 (Zd m.noV) g w⟩]
section
variable {Wn lo gK:Nat} {m:EM} {kv cv ov:Value}
theorem TCE_st:Zn (TCE Wn lo gK m kv cv ov):=by
  unfold TCE;intro F hF;simp only [List.mem_cons,List.not_mem_nil,or_false] at hF
  rcases hF with rfl | rfl | rfl | rfl | rfl | rfl | rfl | rfl | rfl | rfl | rfl | rfl | rfl | rfl | rfl | rfl | rfl
  all_goals first | exact Yg (Zb _) | exact Yg keyO_st | exact Yg arO_st | exact Yg VE | exact Yg row1_st' | exact Yg eng0_st | exact Yg box9_st | skip
  rintro l w w' ⟨g,h1,h2,h3⟩ hg;exact ⟨g,h1,h2,h3.grow hg⟩
theorem TCE_keep {f:Tmp→Value} {w w':World} {g:Nat} {x0 x1 x2 x3 x4 x5 x6 x7 x8:Value} {cs:Array Value} (k:Chg (fun y=>y=g) w w') (B:Blk w g 58 cs) (RS:Blk w' g 58 #[x0,x1,x2,x3,x4,x5,x6,x7,x8]):keeps f w w' 16 (TCE Wn lo gK m kv cv ov) 0:=by
  have hi:∀y,y=g→y<w.heap.size→∃T us,Blk w y T us∧T≠3:=fun y hy _=>by subst hy;exact ⟨_,_,B,by decide⟩
  have hs:∀y,y=g→y<w.heap.size→∃T us,Blk w y T us∧T≠3∧T≠102:=fun y hy _=>by subst hy;exact ⟨_,_,B,by decide,by decide⟩
  simp only [TCE,keeps,and_true];refine ⟨fun _ q=>q,fun _ q=>q,fun _ q=>keyO.typ q k hi,fun _ q=>q,fun _ q=>q,fun _ q=>arO.typ q k hs,fun _ ⟨g',h1,h2,h3,h4⟩=>⟨g',h1,h2,h3.chg k (blk_ne9 h3 B (by decide)),Ub h4 k hi⟩,fun _ q=>q,fun _ q=>q,fun _ ⟨A,c,h1,h2⟩=>⟨A,c,h1,Ub h2 k hi⟩,fun _ q=>q,fun _ q=>q,fun _ q=>q,fun _ q=>q,fun _ ⟨A,n,c,B',q,d,C,r,e,E,o,i,e1,h1⟩=>⟨A,n,c,B',q,d,C,r,e,E,o,i,e1,aggF.far9 h1 B k (by decide)⟩,fun _ ⟨g',u0,u1,u2,u3,u4,u5,u6,u7,u8,h1,h2,h3⟩ => ?_,fun e=>absurd rfl e⟩
  by_cases e:g'=g
  · subst e
    exact ⟨g',_,_,_,_,_,_,_,_,_,h1,h2,RS⟩
  · exact ⟨g',_,_,_,_,_,_,_,_,_,h1,h2,h3.chg k e⟩
end
structure ewfW (m:EM):Prop where
  k:kwf m.k
  c:amwf m.c
  vs:∀a∈m.vs,awf a
  n:m.vs.length≤1048576
  op:m.op.length≤4194304
theorem ewf.w {m:EM} (h:ewf m):ewfW m:=⟨h.k,h.c,h.vs,h.n,by have:=h.op;omega⟩
set_option maxHeartbeats 4000000 in
set_option maxRecDepth 100000 in
theorem VF (m:EM) (v:Value) (w0:World) (h:AggR w0 (Zd m) v) (wm:ewfW m) :
    Calls Tryz.prog 61 #[v] w0 fun e w'=>∃v,e=.returned v∧aggF w0.heap.size (Zd m) v w'∧w0.grownBy w' none:=by
  obtain ⟨A,B,C,D,E,a,b,c,d,e,rfl,hR⟩:=Zo h;obtain ⟨w1,hw1⟩:∃x:World,((w0.alloc (.cells #[.int .i64 m.k.p,.slice A m.k.al.length a,.int .i64 m.c.p,.slice B m.c.st.length b,.slice C m.c.outs.length c,.slice D m.vs.length d,.slice E m.op.length e,.int .i64 m.rd,.bool m.bad] 58)).alloc (.cells #[.int .i64 0,.slice none 0 0,.int .i64 0,.slice none 0 0,.slice none 0 0,.slice none 0 0,.slice none 0 0,.int .i64 0,.bool false] 58))=x:=⟨_,rfl⟩;have GW:Hid (w0.grownBy w1 none):=by rw [← hw1];exact gbA (gbA (gbR _ _) _) _
  have z1:Hid (w1.heap.size=w0.heap.size+2):=by rw [← hw1];exact zH (by simp)
  have D1:Hid (Blk w1 w0.heap.size 58 #[.int .i64 m.k.p,.slice A m.k.al.length a,.int .i64 m.c.p,.slice B m.c.st.length b,.slice C m.c.outs.length c,.slice D m.vs.length d,.slice E m.op.length e,.int .i64 m.rd,.bool m.bad]):=by rw [← hw1];exact (Blk.new w0 _ _).grow (gbA (gbR _ _) _)
  have D3:Hid (Blk w1 (w0.heap.size+1) 58 #[.int .i64 0,.slice none 0 0,.int .i64 0,.slice none 0 0,.slice none 0 0,.slice none 0 0,.slice none 0 0,.int .i64 0,.bool false]):=by rw [← hw1];exact Blk.new' _ _ _ _ (by simp)
  have R1:=zH (hR.grow GW.out);have P00:=zH hR.va;have WM:=zH wm;clear h hR wm
  go_enter Tryz.func61,Tryz.ntmps61
  go_wp2_with fail;clear hw1;have hlz:w0.heap.size+2≤w1.heap.size:=by have:=z1.out;omega
  have HX:Hid (∀w4,Chg (fun b=>∃s,(s,b)∈([]:List (Nat × Nat))) w1.drew w4→w1.grownBy w4 none):=zH (fun w4 hG=>⟨hG.os,hG.tape,hG.output,hG.size,fun i hi _=>hG.block i hi (by rintro ⟨s,hs⟩;cases hs)⟩);refine Qr (TCE w1.heap.size (w0.heap.size+2) w0.heap.size m (.agg #[.int .i64 m.k.p,.slice A m.k.al.length a]) (.agg #[.int .i64 m.c.p,.slice B m.c.st.length b,.slice C m.c.outs.length c]) (.slice E m.op.length e)) [⟨2,7,6,11,apB⟩,⟨5,10,6,11,apB⟩,⟨2,7,9,14,apB⟩,⟨5,10,9,14,apB⟩,⟨2,7,5,10,apB⟩] [] (by kernel_rfl) (by kernel_rfl) (by kernel_rfl) (by kernel_rfl) TCE_st ?_ ?_
  · simp only [hops7,and_true]
    refine ⟨?_, ?_, ?_, ?_, ?_, ?_, ?_, ?_, ?_, ?_, ?_, ?_, ?_, ?_, ?_, ?_, ?_⟩;rotate_left 2
    · intro f w4 hG pre old hd _
      have hg4:=HX.out w4 hG;have hz4:=hg4.size;clear hG pre old;simp [depsF,bindE,List.filter_cons,Zy,Zp,Zq,Zr,Zz,Yu,TCE,fAt,Yn,isV] at hd;simp [puts,dsts,Act.put,hd];clear hd;go_wp2_with fail;refine (specl28Keys_c m.k _ w4 (R1.out.ky.grow hg4) WM.out.k).mono ?_;rintro e w6 ⟨v6,rfl,o6,g6⟩;have hK:=keyO.of o6;have O6:=zH hK;have G6:=zH g6;have O6':Hid (keyO (w0.heap.size+2) m.k v6 w6):=zH (keyO.of (o6.lo (show w0.heap.size+2≤w4.heap.size by omega)));clear o6 g6 hK;go_wp2_with fail;refine ⟨_,rfl,O6'.out,Or.inl G6.out,fun p hp => ?_⟩;have hb:=fun g hg=>(O6.out.blks g hg).1;simp only [List.mem_cons,List.not_mem_nil,or_false] at hp
      rcases hp with rfl | rfl | rfl | rfl | rfl
      · exact ⟨fun _ q=>apB_up hb (fun g hg=>(emptyS.blks q g hg).2),fun e=>absurd e (by decide)⟩
      · exact ⟨fun e=>absurd e (by decide),fun e=>absurd e (by decide)⟩
      · exact ⟨fun _ q=>apB_up hb (fun g hg=>(row1.blks q g hg).2),fun e=>absurd e (by decide)⟩
      · exact ⟨fun e=>absurd e (by decide),fun e=>absurd e (by decide)⟩
      · exact ⟨fun _ q=>apB_up hb (fun g hg=>(arO.blks q g hg).2),fun e=>absurd e (by decide)⟩
    rotate_left 2
    · intro f w4 hG pre old hd _
      have hg4:=HX.out w4 hG;have hz4:=hg4.size;clear hG pre old;simp [depsF,bindE,List.filter_cons,Zy,Zp,Zq,Zr,Zz,Yu,TCE,fAt,Yn,isV] at hd
      have e9:f 9=.agg #[.int .i64 m.c.p,.slice B m.c.st.length b,.slice C m.c.outs.length c]:=by first | exact hd | exact hd.1 | exact hd.2
      simp [puts,dsts,Act.put,e9];clear hd;go_wp2_with fail;refine (specl28Arith_c m.c _ w4 (R1.out.ar.grow hg4) WM.out.c).mono ?_;rintro e w6 ⟨v6,rfl,o6,g6⟩;have hK:=arO.of o6;have O6:=zH hK;have G6:=zH g6;have O6':Hid (arO (w0.heap.size+2) m.c v6 w6):=zH (arO.of (o6.lo (show w0.heap.size+2≤w4.heap.size by omega)));clear o6 g6 hK e9;go_wp2_with fail;refine ⟨_,rfl,O6'.out,Or.inl G6.out,fun p hp => ?_⟩;have hb:=fun g hg=>(O6.out.blks g hg).1;simp only [List.mem_cons,List.not_mem_nil,or_false] at hp
      rcases hp with rfl | rfl | rfl | rfl | rfl
      · exact ⟨fun e=>absurd e (by decide),fun e=>absurd e (by decide)⟩
      · exact ⟨fun _ q=>apB_up hb (fun g hg=>(emptyS.blks q g hg).2),fun e=>absurd e (by decide)⟩
      · exact ⟨fun e=>absurd e (by decide),fun e=>absurd e (by decide)⟩
      · exact ⟨fun _ q=>apB_up hb (fun g hg=>(row1.blks q g hg).2),fun e=>absurd e (by decide)⟩
      · exact ⟨fun e=>absurd e (by decide),fun _ q=>apB_dn (fun g hg=>(keyO.blks q g hg).2) hb⟩
    · intro f w4 hG pre old hd _
      have hz4:=(HX.out w4 hG).size;clear hd hG pre old;simp [puts,dsts,Act.put];go_wp2_with fail;refine ⟨_,rfl,⟨w4.heap.size,rfl,by omega,Blk.new _ _ _,World.ownsRow_made w4 #[] 0 (Nat.zero_le _) (by simp) rfl⟩,Or.inl (gbA (gbR _ _) _),fun p hp => ?_⟩
      have hb:∀g∈blks (.slice (some ⟨w4.heap.size,0,none⟩) 0 0),w4.heap.size≤g:=fun g hg=>by
        rw [Uc] at hg;simp [Value.ownBlock] at hg;omega
      simp only [List.mem_cons,List.not_mem_nil,or_false] at hp
      rcases hp with rfl | rfl | rfl | rfl | rfl
      · exact ⟨fun e=>absurd e (by decide),fun _ q=>apB_dn (fun g hg=>(keyO.blks q g hg).2) hb⟩
      · exact ⟨fun e=>absurd e (by decide),fun _ q=>apB_dn (fun g hg=>(arO.blks q g hg).2) hb⟩
      · exact ⟨fun e=>absurd e (by decide),fun e=>absurd e (by decide)⟩
      · exact ⟨fun e=>absurd e (by decide),fun e=>absurd e (by decide)⟩
      · exact ⟨fun e=>absurd e (by decide),fun e=>absurd e (by decide)⟩
    rotate_left 2
    · intro f w4 hG pre old hd hpr
      have hg4:=HX.out w4 hG;have hz4:=hg4.size;have I4:=zH ((cints_rd' (CS.grow _ R1.out.opn hg4)).2.2.2);have hp1:apB (f 7) (f 11):=hpr ⟨2,7,6,11,apB⟩ (by simp) (by kernel_rfl) (by kernel_rfl) (by decide) (by decide);have hp2:apB (f 10) (f 11):=hpr ⟨5,10,6,11,apB⟩ (by simp) (by kernel_rfl) (by kernel_rfl) (by decide) (by decide);clear hG pre old hpr;simp [depsF,bindE,List.filter_cons,Zy,Zp,Zq,Zr,Zz,Yu,TCE,fAt,Yn,isV] at hd
      have h11:emptyS (w0.heap.size+2) (f 11) w4:=by first | exact hd.1 | exact hd.2.1
      have e13:f 13=.slice E m.op.length e:=by first | exact hd.2.1 | exact hd.1
      obtain ⟨g3,e3,hg3,B3,O3⟩:=h11;rw [e3,blks_sl'] at hp1 hp2;simp [puts,dsts,Act.put,e3,e13];clear hd
      go_wp2_with (at_builtin;refine Xy w4 YF rfl (.tmp 11) (.tmp 13) rfl g3 O3 rfl E m.op.length e _ rfl I4.out (by simp [Value.oneCell']) (by have:=WM.out.op;unfold maxLen;omega) (by have:=WM.out.op;omega) ?_;intro v6 w6 o6 g6 n6)
      have hR:=row1.of (Xu (base':=w0.heap.size+2) o6 (fun g hg=>(n6 g hg).elim (fun h=>by omega) (fun h=>by have:=h.1;omega)))
      have hb:∀g∈blks v6,g=g3∨w4.heap.size≤g:=fun g hg=>by
        obtain ⟨A6,c6,rfl,_⟩:=hR;rw [Uc] at hg;exact (n6 g (by simpa using hg)).imp id (fun h=>h.1)
      have HR:=zH hR;have HB:=zH hb;have G6:=zH g6;clear o6 g6 n6 hR hb;refine ⟨_,rfl,HR.out,Or.inl G6.out,fun p hp => ?_⟩;simp only [List.mem_cons,List.not_mem_nil,or_false] at hp
      rcases hp with rfl | rfl | rfl | rfl | rfl
      · exact ⟨fun e=>absurd e (by decide),fun e=>absurd e (by decide)⟩
      · exact ⟨fun e=>absurd e (by decide),fun e=>absurd e (by decide)⟩
      · exact ⟨fun e=>absurd e (by decide),fun _ q g hg hg'=>by
          rcases HB.out g hg' with h6 | h6
          · exact hp1 g hg (by rw [h6];exact List.mem_cons_self ..)
          · have:=(keyO.blks q g hg).2;omega⟩
      · exact ⟨fun e=>absurd e (by decide),fun _ q g hg hg'=>by
          rcases HB.out g hg' with h6 | h6
          · exact hp2 g hg (by rw [h6];exact List.mem_cons_self ..)
          · have:=(arO.blks q g hg).2;omega⟩
      · exact ⟨fun e=>absurd e (by decide),fun e=>absurd e (by decide)⟩
    rotate_left 4
    · intro f w4 hG pre old hd hpr
      have hg4:=HX.out w4 hG;have hp1:apB (f 7) (f 14):=hpr ⟨2,7,9,14,apB⟩ (by simp) (by kernel_rfl) (by kernel_rfl) (by decide) (by decide);have hp2:apB (f 10) (f 14):=hpr ⟨5,10,9,14,apB⟩ (by simp) (by kernel_rfl) (by kernel_rfl) (by decide) (by decide);have hp3:apB (f 7) (f 10):=hpr ⟨2,7,5,10,apB⟩ (by simp) (by kernel_rfl) (by kernel_rfl) (by decide) (by decide);clear hG pre old hpr;simp [depsF,bindE,List.filter_cons,Zy,Zp,Zq,Zr,Zz,Yu,TCE,fAt,Yn,isV] at hd;obtain ⟨q7,q10,q14,e16,e18⟩:=hd;obtain ⟨A9',c9,B9,d9,C9,x9,E9,i9,e7,e10,e14,hA⟩:=eng_own q7 q10 q14 hp3 hp1 hp2;have HA:=zH hA;clear hA q7 q10 q14 hp1 hp2 hp3;simp [puts,dsts,Act.put,e7,e10,e14,e16,e18];go_wp2_with fail
      exact ⟨_,rfl,⟨_,_,_,_,_,_,_,_,_,_,_,_,rfl,HA.out⟩,Or.inl (gbR _ _),fun p hp=>by
        simp only [List.mem_cons,List.not_mem_nil,or_false] at hp
        rcases hp with rfl | rfl | rfl | rfl | rfl <;> exact ⟨fun e=>absurd e (by decide),fun e=>absurd e (by decide)⟩⟩
    · refine VY rfl ?_
      intro f w4 hG pre old hd;have hz4:=(HX.out w4 hG).size;clear hd hG pre old;simp [puts,dsts,Act.put];go_wp2_with fail;exact ⟨_,rfl,⟨_,_,_,_,_,_,_,_,_,_,rfl,hz4,Blk.new _ _ _⟩,Or.inl (gbA (gbR _ _) _)⟩
    · refine VY rfl ?_
      intro f w4 hG pre old hd;clear hG pre old;simp [depsF,bindE,List.filter_cons,Zy,Zp,Zq,Zr,Zz,Yu,TCE,fAt,Yn,isV] at hd;obtain ⟨⟨g,u0,u1,u2,u3,u4,u5,u6,u7,u8,e3,hg,R4⟩,⟨A9',n9,c9,B9,q9,d9,C9,r9,x9,E9,o9',i9,e19,F9,o9,l9⟩,-⟩:=hd;obtain ⟨f0,f1,f2,f3,f4,f5,f6,f7,f8⟩:=R4.f9;obtain ⟨b0,b1,b2,b3,b4,b5,b6,b7,b8⟩:=R4.c9;have hgF:=Qw (Xx m.noV) o9 R4 (by decide);have RS:=SOF.store R4 (us:=[.int .i64 m.k.p,.slice A9' n9 c9,.int .i64 m.c.p,.slice B9 q9 d9,.slice C9 r9 x9,.slice none 0 0,.slice E9 o9' i9,.int .i64 m.rd,.bool m.bad]) rfl o9 hgF;have BS:=Zh R4 [.int .i64 m.k.p,.slice A9' n9 c9,.int .i64 m.c.p,.slice B9 q9 d9,.slice C9 r9 x9,.slice none 0 0,.slice E9 o9' i9,.int .i64 m.rd,.bool m.bad] rfl;have CH:=Zc g [.int .i64 m.k.p,.slice A9' n9 c9,.int .i64 m.c.p,.slice B9 q9 d9,.slice C9 r9 x9,.slice none 0 0,.slice E9 o9' i9,.int .i64 m.rd,.bool m.bad] 0 w4;have hK:=TCE_keep (Wn:=w1.heap.size) (lo:=w0.heap.size+2) (gK:=w0.heap.size) (m:=m) (kv:=.agg #[.int .i64 m.k.p,.slice A m.k.al.length a]) (cv:=.agg #[.int .i64 m.c.p,.slice B m.c.st.length b,.slice C m.c.outs.length c]) (ov:=.slice E m.op.length e) (f:=f) CH R4 BS;have CM:=CH.mono (T:=fun b=>w1.heap.size≤b) (fun z hz=>by have hz:z=_:=hz;subst hz;exact hg);simp only [ZW,Nat.zero_add,Nat.reduceAdd] at hK CM RS;have HK9:=zH hK;have HCM:=zH CM;have HRS:=zH RS;clear CH hK CM RS BS R4 o9;simp [puts,dsts,Act.put,e3,e19];go_wp2_with fail;exact ⟨rfl,⟨.bool false,g,e3,hg,F9,HRS.out,l9⟩,Or.inr ⟨by simpa using HCM.out,HK9.out⟩⟩
    all_goals
      refine VY rfl ?_;intro f w4 hG pre old hd;have hg4:=HX.out w4 hG;have K:=D1.out.grow hg4;have k0:=K.cell 0;have k1:=K.cell 1;have k2:=K.cell 2;have k3:=K.cell 3;have k4:=K.cell 4;have k6:=K.cell 6;have k7:=K.cell 7;have k8:=K.cell 8;simp at k0 k1 k2 k3 k4 k6 k7 k8;clear K hg4 hG pre old;simp [depsF,bindE,List.filter_cons,Zy,Zp,Zq,Zr,Zz,Yu,TCE,fAt,Yn,isV] at hd
      first | simp [hd] | simp
      try clear hd
      go_wp2_with fail;exact ⟨_,rfl,by simp [TCE,fAt,Yn,Yf,isV],Or.inl (gbR _ _)⟩
  intro f w6 hG hd _;have h16:=WJ hd (i:=16) rfl;obtain ⟨g,e3,hg,hS⟩:=h16;have e3:f 3=.pointer (some ⟨g,0,none⟩):=e3;have hS:sofF (w0.heap.size+2) 58 (Zd m.noV) g w6:=hS;have hG:=HX.out w6 hG;simp only [puts,dsts,Act.put,zB,zC,zA,zD,zE];rw [e3];have HS:=zH hS;have G1:=zH hG;have K1:=zH (D1.out.grow hG);obtain ⟨H,hH⟩:∃H,w0.heap.size+2=H:=⟨_,rfl⟩;have hHl:w0.heap.size+1<H:=by omega
  rw [hH] at HS hlz;have hHg:H≤g:=by omega
  have hHw:w0.heap.size≤H:=by omega
  have P0:=P00;clear P00;have D9:=zH (D3.out.grow hG);have WV:=zH WM.out.vs;obtain ⟨n,hn⟩:∃n,m.vs.length=n:=⟨_,rfl⟩;rw [hn] at K1 P0;have LN:=zH hn;have hbn:n≤1048576:=by have:=WM.out.n;omega
  have b5:=K1.out.cell 5;simp at b5;have GV:=zH (gbT GW.out hG);clear hd e3 hS hG hH hn D1 D3 R1 WM z1 GW;go_wp2_with fail
  go_loopw [4] (fun i wr=>∃k:Nat,k≤n∧i=.int .i64 k∧Hid (sofF H 58 (Zd { m with vs:=m.vs.take k }) g wr)∧Hid (Blk wr (w0.heap.size+1) 58 #[.int .i64 0,.slice none 0 0,.int .i64 0,.slice none 0 0,.slice none 0 0,.slice none 0 0,.slice none 0 0,.int .i64 0,.bool false])∧Hid (Blk wr w0.heap.size 58 #[.int .i64 m.k.p,.slice A m.k.al.length a,.int .i64 m.c.p,.slice B m.c.st.length b,.slice C m.c.outs.length c,.slice D n d,.slice E m.op.length e,.int .i64 m.rd,.bool m.bad])∧Hid (w0.grownBy wr none)) (fun i _=>n - (intOf i).toNat)
  case atStart=>exact ⟨0,Nat.zero_le _,rfl,HS,D9,K1,GV⟩
  case round =>
    clear HS GV D9 K1;obtain ⟨k,hk,rfl,ho,hD,hKB,hg⟩:=hrel;have kb5:=hKB.out.cell 5;simp only [List.getElem?_toArray,List.getElem?_cons_succ,List.getElem?_cons_zero] at kb5
    by_cases hlt:k<n
    · have i1:(k:Int)<(n:Int):=by omega
      obtain ⟨bq,oq,x,Bx,dx,Cx,fx,hDq,hb,hx,q0,q1,hX0⟩:=ZL P0.out hlt;have hX:=hX0.grow hg.out;obtain ⟨F,hS,hl⟩:=ho.out;obtain ⟨V,d5,F5,v5,f5,o5,m5,g5,lt5,up5,_⟩:=hS.val;have hk':(m.vs.take k).length=k:=by rw [List.length_take];have:=LN.out;omega
      rw [show (EM.vs { m with vs:=m.vs.take k })=m.vs.take k from rfl,hk'] at v5 o5;have SG:=zH hS;have O5:=zH o5;have HX2:=zH hX;have WX:=zH (WV.out x (List.mem_of_getElem? hx));have HXX:=zH hx;have UP:=zH up5;have LT5:=zH lt5;have LL:=zH hl;have M5:=zH m5;clear hS hX o5 up5 hl m5 hx lt5;have q0':=gbk hg.out q0;have q1':=gbk hg.out q1;have gV:=fun y (hy:(Value.slice V k d5).ownBlock=some y)=>row_ob O5.out hy;have hVH:∀y,(Value.slice V k d5).ownBlock=some y→H≤y:=fun y hy=>LL.out y (M5.out y (gV y hy));subst hDq;clear q0 q1 hX0;go_wp2_with fail;clear kb5
      refine Zg [.rd (.pointer (some ⟨g,5,none⟩)),.rd (.slice V k d5),.rd (.pointer (some ⟨w0.heap.size,5,none⟩)),.rd (.slice (some ⟨bq,oq,none⟩) n d),.rd (.int .i64 k),.rd (.pointer (some ⟨bq,oq+k*2,none⟩)),.rd (.agg #[.slice Bx x.sh.length dx,.slice Cx x.mc.length fx]),.ch,.ch,.ch,.rd (.pointer (some ⟨g,5,none⟩)),.ch] (fun y=>(Value.slice V k d5).ownBlock=some y)
        [⟨[],fun _ w'=>w'=wr.drew⟩,
         ⟨[34],fun l w'=>autF wr.heap.size x (l.getD 0 undef) w'∧wr.drew.grownBy w' none⟩,
         ⟨[34,35],fun l w'=>∃w5 u0 u1,w'=w5.alloc (.cells #[u0,u1] 80)∧l.getD 1 undef=.slice (some ⟨w5.heap.size,0,none⟩) 1 1∧l.getD 0 undef=.agg #[u0,u1]∧autF wr.heap.size x (.agg #[u0,u1]) w5∧wr.drew.grownBy w5 none⟩,
         ⟨[36],fun l w'=>Chg (fun y=>y∈F5) wr.drew w'∧∃F,(cauths (m.vs.take (k+1))).own w' F (l.getD 0 undef)∧∀y∈F,y∈F5∨wr.heap.size≤y⟩,
         ⟨[],fun _ w'=>sofF H 58 (Zd { m with vs:=m.vs.take (k+1) }) g w'∧Blk w' (w0.heap.size+1) 58 #[.int .i64 0,.slice none 0 0,.int .i64 0,.slice none 0 0,.slice none 0 0,.slice none 0 0,.slice none 0 0,.int .i64 0,.bool false]∧Blk w' w0.heap.size 58 #[.int .i64 m.k.p,.slice A m.k.al.length a,.int .i64 m.c.p,.slice B m.c.st.length b,.slice C m.c.outs.length c,.slice (some ⟨bq,oq,none⟩) n d,.slice E m.op.length e,.int .i64 m.rd,.bool m.bad]∧w0.grownBy w' none⟩]
        (by kernel_rfl) (by kernel_rfl) (by kernel_rfl) 4 (by kernel_rfl) (by simp only [flOk,and_true]) rfl rfl ?_ ?_
      · simp only [hopsK,hopK,Kd.next,and_true]
        refine ⟨?_, ?_, ?_, ?_, ?_, ?_, ?_, ?_, ?_, ?_, ?_, ?_⟩;rotate_left 1
        · intro f w4 hG hd
          have b5:=hG.cell (gbk (gbD (gbR wr none)) v5) (by have:=SG.out.ltg;simp;omega) (fun e=>g5 (gV g e))
          (try simp at hd)
          (first | simp [hd] | simp)
          clear hd;go_wp2_with fail;exact ⟨rfl,rfl⟩
        rotate_left 1
        · intro f w4 hG hd
          have B4:=(hKB.out.grow (gbD (gbR wr none))).chg hG (fun e=>by have:=hVH _ e;omega);have b5:=B4.cell 5;simp only [List.getElem?_toArray,List.getElem?_cons_succ,List.getElem?_cons_zero] at b5;clear B4
          (try simp at hd)
          (first | simp [hd] | simp)
          clear hd;go_wp2_with fail;exact ⟨rfl,rfl⟩
        rotate_left 2
        · intro f w4 hG hd
          have hbr:=hg.out.size;have b0:=hG.cell (gbk (gbD (gbR wr none)) q0') (by simp;omega) (fun e=>by have:=hVH _ e;omega);have b1:=hG.cell (gbk (gbD (gbR wr none)) q1') (by simp;omega) (fun e=>by have:=hVH _ e;omega)
          (try simp at hd)
          (first | simp [hd] | simp)
          clear hd;go_wp2_with fail;exact ⟨rfl,rfl⟩
        · intro f w4 hG hI hd
          have hI:w4=wr.drew:=hI;subst hI
          (try simp at hd)
          (first | simp [hd] | simp)
          clear hd;go_wp2_with fail;refine (specl28Auth_c x _ wr.drew (HX2.out.grow (gbD (gbR wr none))) WX.out).mono ?_;rintro e w6 ⟨v6,rfl,o6,g6⟩;have O6:=zH o6;have G6:=zH g6;clear o6 g6;go_wp2_with fail;exact ⟨_,rfl,⟨O6.out,G6.out⟩,⟨Chg.of G6.out (by simp),by simp [keepsC,dstAt]⟩⟩
        · intro f w4 hG hI hd
          obtain ⟨h1,h2⟩:=hI;have h1:autF wr.heap.size x (f 34) w4:=h1;obtain ⟨A9,n9,c9,B9,k9,d9,e34⟩:=h1.form;rw [e34] at h1;clear hd;simp [puts,dsts,Act.put,e34];go_wp2_with fail;exact ⟨_,rfl,⟨w4,_,_,rfl,rfl,e34,h1,h2⟩,⟨Chg.of (gbA (gbR _ none) _) (by simp),by simp [keepsC,dstAt]⟩⟩
        · intro f w4 hG hI hd
          obtain ⟨w5,u0,u1,rfl,e35,e34,h1,h2⟩:=hI;have e35:f 35=.slice (some ⟨w5.heap.size,0,none⟩) 1 1:=e35;obtain ⟨_,_,_,_,_,_,Fx,e,hx,lx⟩:=h1.own;injection e with e;injection e with e;injection e with e1 e;injection e with e2 _;subst e1;subst e2
          (try simp at hd)
          simp [puts,dsts,Act.put,hd,e35];have hs5:=h2.size;have gg5:wr.grownBy w5 none:=gbT (gbD (gbR _ _)) h2;obtain ⟨vs,ho,hob,hpush⟩:=Vi (Zj _ O5.out gg5);rw [hk'] at ho hpush;have hLT:=LT5.out;refine wp_appendG w5 w5.heap.size rfl elAuth rfl (.tmp 28) (.tmp 35) rfl #[.slice _ _ _,.slice _ _ _] rfl (by simp [Value.oneCell']) 0 (.slice V k d5) k vs ho rfl rfl (by unfold maxLen;omega) (by omega) (Nat.zero_le _) ?_;intro v' w7 o7 g7a k7;have g7:=gbT (gbA (gbR w5 _) _) g7a;have hx7:=hx.chg (Chg.of (S:=fun y=>(Value.slice V k d5).ownBlock=some y) g7 (fun g hg=>hg)) (fun y hy hy'=>by have:=lx y hy;have:=hLT y (gV y hy');omega)
          obtain ⟨F',k1,k2⟩:=hpush w7 v' _ _ x Fx o7 g7 (fun g hg=>(k7 g hg).imp id (fun h=>Nat.le_of_lt h)) hx7 (fun y hy hy'=>by have:=lx y hy;have:=hLT y hy';omega) (fun y hy hy'=>by
            rcases k7 y hy with h3 | h3
            · have:=lx y hy';have:=hLT y (gV y h3.symm);omega
            · have:=hx.lt y hy';omega)
          have hfl:m.vs.take k ++ [x]=m.vs.take (k+1):=by rw [List.take_add_one,HXX.out];rfl
          rw [hfl] at k1;obtain ⟨B',n'',s'',rfl⟩:=ZJ k1;go_wp2_with fail;refine ⟨_,rfl,⟨(Chg.of h2 (by simp)).trans (Chg.of g7 (fun g hg=>gV g hg)),F',k1,fun y hy => ?_⟩,⟨Chg.of g7a (fun g hg=>hg),by simp [keepsC,dstAt]⟩⟩
          rcases k2 y hy with h3 | h3 | h3
          · exact .inl h3
          · exact .inr (by simp at hs5;omega)
          · exact .inr (by have:=lx y h3;omega)
        rotate_left 1
        · intro f w4 hG hI hd
          obtain ⟨hch,F',o6,l6⟩:=hI;have o6:(cauths (m.vs.take (k+1))).own w4 F' (f 36):=o6;obtain ⟨B',n',s',e36⟩:=ZJ o6;rw [e36] at o6;have hch2:Chg (fun y=>y∈F5) wr w4:=(Chg.of (gbD (gbR _ none)) (by simp)).trans hch;have b5:=hch2.cell v5 SG.out.ltg g5;have q5:=hch2.frozen f5 SG.out.ltg g5;obtain ⟨F'',s1,s2⟩:=UP.out w4 _ _ _ hch2 o6 l6
          (try simp at hd)
          simp [puts,dsts,Act.put,hd,e36];clear hd;go_wp2_with fail;have hgw:=SG.out.ltg;have hF5:∀y∈F5,H≤y:=fun y hy=>LL.out y (M5.out y hy);refine ⟨rfl,.bool false,⟨F'',s1,fun y hy => ?_⟩,(hD.out.chg hch2 (fun hy=>by have:=hF5 _ hy;omega)).far (p:=⟨g,5,none⟩) (by simp;omega) _,(hKB.out.chg hch2 (fun hy=>by have:=hF5 _ hy;omega)).far (p:=⟨g,5,none⟩) (by simp;omega) _, ?_⟩
          · rcases s2 y hy with h3 | h3
            · exact LL.out y h3
            · omega
          · exact gbS (gbChg hg.out hch2 (fun y hy=>by have:=hF5 y hy;omega)) (by simp;omega) _
        all_goals
          intro f w4 hG hd
          (try simp at hd)
          (first | simp [hd] | simp)
          clear hd;go_wp2_with fail;exact ⟨rfl,rfl⟩
      intro f w8 hI hd;simp only [puts,dsts,Act.put,zB,zC,zA,zD,zE];obtain ⟨h1,h2,h4,h3⟩:=hI;have K1:=zH h1;have K2:=zH h2;have K3:=zH h3;have K4:=zH h4;clear hd h1 h2 h3 h4;go_wp2_with fail
      go_roundw
      case rel=>exact ⟨k+1,by omega,by go_num,K1,K2,K4,K3⟩
      case measure=>simp [intOf];omega
    · have hkn:k=n:=by omega
      subst hkn;obtain ⟨F,hS,hl⟩:=ho.out;have ht:m.vs.take k=m.vs:=List.take_of_length_le (by have:=LN.out;omega);rw [ht] at hS;have hS:SOF 58 (Zd m) g F wr:=hS;obtain ⟨A',B',C',D',E',a',b',c',d',e',hB,hR⟩:=hS.eng;have HA:=hS.is (us:=[_,_,_,_,_,_,_,_,_]) hB;obtain ⟨b0,b1,b2,b3,b4,b5,b6,b7,b8⟩:=hB.c9;obtain ⟨c0,c1,c2,c3,c4,c5,c6,c7,c8⟩:=hD.out.c9;obtain ⟨f0,f1,f2,f3,f4,f5,f6,f7,f8⟩:=hD.out.f9;have RS:=SOF.store hD.out (us:=[.int .i64 m.k.p,.slice A' m.k.al.length a',.int .i64 m.c.p,.slice B' m.c.st.length b',.slice C' m.c.outs.length c',.slice D' m.vs.length d',.slice E' m.op.length e',.int .i64 m.rd,.bool m.bad]) rfl HA (fun hx=>by have:=hl _ hx;omega);have GS:=Zv hg.out (Zc (w0.heap.size+1) [.int .i64 m.k.p,.slice A' m.k.al.length a',.int .i64 m.c.p,.slice B' m.c.st.length b',.slice C' m.c.outs.length c',.slice D' m.vs.length d',.slice E' m.op.length e',.int .i64 m.rd,.bool m.bad] 0 wr) (by omega);simp only [ZW,Nat.zero_add,Nat.reduceAdd] at RS GS;obtain ⟨vs,hBR,hAR⟩:=RS.agg;have HAR:=zH hAR;have HBR:=zH hBR;have GS:=zH GS;have HL:=zH hl;clear hS hB hR HA RS hAR hBR hl ho hD;go_wp2_with fail;refine Yo Tryz.results61 (by rfl) Wg (cs:=vs.toArray) HBR.out (by rw [List.size_toArray];exact XL HAR.out) (by rfl) ?_;exact ⟨_,rfl,⟨F,HAR.out,fun x hx=>by have:=HL.out x hx;omega⟩,GS.out⟩
end Go.Proofs.YthaadgdeadbhkaaGreat
