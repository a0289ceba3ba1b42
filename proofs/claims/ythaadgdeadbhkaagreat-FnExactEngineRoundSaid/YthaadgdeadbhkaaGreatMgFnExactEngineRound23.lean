/-
 copyEngine of the program.
-/
import Derived.Test.YthaadgdeadbhkaaGreatMgFnExactEngineRound22
open Go.RowKit
set_option linter.unusedVariables false
set_option linter.unusedSimpArgs false
namespace Go.Proofs.YthaadgdeadbhkaaGreat
attribute [local simp] depsC dstAt kAt bindE List.filter_cons Zy Zp Zq Zr Zz Yu puts dsts Act.put
def keyL (lo:Nat) (k:KM) (u:Value) (w:World):Prop:=∃A n c,u=.agg #[.int .i64 k.p,.slice A n c]∧ownL lo (ckeys k) [.int .i64 k.p,.slice A n c] w
def keyArL (lo:Nat) (k:KM) (m:AM) (u v:Value) (w:World):Prop:=∃A n c B q d C r e,u=.agg #[.int .i64 k.p,.slice A n c]∧v=.agg #[.int .i64 m.p,.slice B q d,.slice C r e]∧ownL lo (ckeys k ++ carith m) [.int .i64 k.p,.slice A n c,.int .i64 m.p,.slice B q d,.slice C r e] w
theorem keyL.of {lo:Nat} {k:KM} {u:Value} {w:World} (h:aggF lo (ckeys k) u w):keyL lo k u w:=by
 obtain ⟨F,h1,h2⟩:=h;obtain ⟨A,n,c,rfl⟩:=Wc h1;exact ⟨A,n,c,rfl,aggF.all ⟨F,h1,h2⟩⟩
theorem keyArL.of {lo:Nat} {k:KM} {m:AM} {u v:Value} {w w':World} (h:keyL lo k u w) (hg:w.grownBy w' none) (k2:aggF w.heap.size (carith m) v w') (hl:lo≤w.heap.size):keyArL lo k m u v w':=by
 obtain ⟨A,n,c,rfl,h1⟩:=h;obtain ⟨F,k3,k4⟩:=k2;obtain ⟨B,q,d,C,r,e,rfl⟩:=YP k3;exact ⟨A,n,c,B,q,d,C,r,e,rfl,rfl,h1.app hg (aggF.all (vs:=[_,_,_]) ⟨F,k3,k4⟩) hl⟩
theorem keyL.grow {lo:Nat} {k:KM} {u:Value} {w w':World} (h:keyL lo k u w) (hg:w.grownBy w' none):keyL lo k u w':=by
 obtain ⟨A,n,c,e,h1⟩:=h;exact ⟨A,n,c,e,h1.grow hg⟩
theorem keyArL.grow {lo:Nat} {k:KM} {m:AM} {u v:Value} {w w':World} (h:keyArL lo k m u v w) (hg:w.grownBy w' none):keyArL lo k m u v w':=by
 obtain ⟨A,n,c,B,q,d,C,r,e,e1,e2,h1⟩:=h;exact ⟨A,n,c,B,q,d,C,r,e,e1,e2,h1.grow hg⟩
def keyArO (lo:Nat) (m:EM) (u v x:Value) (w:World):Prop:=∃A n c B q d C r e E o i,u=.agg #[.int .i64 m.k.p,.slice A n c]∧v=.agg #[.int .i64 m.c.p,.slice B q d,.slice C r e]∧x=.slice E o i∧ownL lo (ckeys m.k ++ carith m.c ++ [cauths []] ++ [cints m.op]) [.int .i64 m.k.p,.slice A n c,.int .i64 m.c.p,.slice B q d,.slice C r e,.slice none 0 0,.slice E o i] w
theorem keyArO.grow {lo:Nat} {m:EM} {u v x:Value} {w w':World} (h:keyArO lo m u v x w) (hg:w.grownBy w' none):keyArO lo m u v x w':=by
 obtain ⟨A,n,c,B,q,d,C,r,e,E,o,i,e1,e2,e3,h1⟩:=h;exact ⟨A,n,c,B,q,d,C,r,e,E,o,i,e1,e2,e3,h1.grow hg⟩
def EM.noV (m:EM):EM:={ m with vs:=[] }
def eng0 (lo:Nat) (m:EM) (u:Value) (w:World):Prop:=∃A n c B q d C r e E o i,u=.agg #[.int .i64 m.k.p,.slice A n c,.int .i64 m.c.p,.slice B q d,.slice C r e,.slice none 0 0,.slice E o i,.int .i64 m.rd,.bool m.bad]∧aggF lo (Zd m.noV) (.agg #[.int .i64 m.k.p,.slice A n c,.int .i64 m.c.p,.slice B q d,.slice C r e,.slice none 0 0,.slice E o i,.int .i64 m.rd,.bool m.bad]) w
theorem eng0.grow {lo:Nat} {m:EM} {u:Value} {w w':World} (h:eng0 lo m u w) (hg:w.grownBy w' none):eng0 lo m u w':=by
 obtain ⟨A,n,c,B,q,d,C,r,e,E,o,i,e1,h1⟩:=h;exact ⟨A,n,c,B,q,d,C,r,e,E,o,i,e1,h1.grow hg⟩
theorem keyArO.of {lo:Nat} {m:EM} {u v:Value} {w w':World} {E:Option Addr} {i:Nat} (h:keyArL lo m.k m.c u v w) (hg:w.grownBy w' none) (o6:w'.ownsRow w.heap.size 3 1 (.slice E m.op.length i) m.op.length (m.op.map (Value.int .i64))) (hl:lo≤w.heap.size):keyArO lo m u v (.slice E m.op.length i) w':=by
 have hz:ownL w.heap.size [cauths []] [.slice none 0 0] w:=⟨[[]],OwnAll.cons (cauths_nil w) (OwnAll.nil _) (by simp),by simp⟩;obtain ⟨A,n,c,B,q,d,C,r,e,e8,e11,h1⟩:=h;exact ⟨A,n,c,B,q,d,C,r,e,_,_,_,e8,e11,rfl,((h1.app (gbR _ _) hz hl).app hg (ownF.ints o6).one hl)⟩
theorem eng0.of {lo:Nat} {m:EM} {u v x:Value} {w:World} (h:keyArO lo m u v x w) (hl:lo≤w.heap.size):∃A n c B q d C r e E o i,u=.agg #[.int .i64 m.k.p,.slice A n c]∧v=.agg #[.int .i64 m.c.p,.slice B q d,.slice C r e]∧x=.slice E o i∧eng0 lo m (.agg #[.int .i64 m.k.p,.slice A n c,.int .i64 m.c.p,.slice B q d,.slice C r e,.slice none 0 0,.slice E o i,.int .i64 m.rd,.bool m.bad]) w:=by
 obtain ⟨A,n,c,B,q,d,C,r,e,E,o,i,e1,e2,e3,h1⟩:=h;have hz:ownL w.heap.size [ci m.rd,cb m.bad] [.int .i64 m.rd,.bool m.bad] w:=((ownL.nil _ w).pl (x:=.bool m.bad) rfl).pl (x:=.int .i64 m.rd) rfl;exact ⟨A,n,c,B,q,d,C,r,e,E,o,i,e1,e2,e3,A,n,c,B,q,d,C,r,e,E,o,i,rfl,(h1.app (gbR _ _) hz hl).agg⟩
set_option maxHeartbeats 4000000 in
set_option maxRecDepth 100000 in
theorem Ut (m:EM) (v:Value) (w0:World) (h:AggR w0 (Zd m) v) (wm:ewf m) :
  Calls Tryz.prog 65 #[v] w0 fun e w'=>∃v,e=.returned v∧aggF w0.heap.size (Zd m) v w'∧w0.grownBy w' none:=by
 obtain ⟨A,B,C,D,E,a,b,c,d,e,rfl,hR⟩:=Zo h;obtain ⟨w1,hw1⟩:∃x:World,((w0.alloc (.cells #[.int .i64 m.k.p,.slice A m.k.al.length a,.int .i64 m.c.p,.slice B m.c.st.length b,.slice C m.c.outs.length c,.slice D m.vs.length d,.slice E m.op.length e,.int .i64 m.rd,.bool m.bad] 58)).alloc (.cells #[.int .i64 0,.slice none 0 0,.int .i64 0,.slice none 0 0,.slice none 0 0,.slice none 0 0,.slice none 0 0,.int .i64 0,.bool false] 58))=x:=⟨_,rfl⟩;have GW:Hid (w0.grownBy w1 none):=by rw [← hw1];exact gbA (gbA (gbR _ _) _) _
 have z1:Hid (w1.heap.size=w0.heap.size+2):=by rw [← hw1];exact zH (by simp)
 have D1:Hid (Blk w1 w0.heap.size 58 #[.int .i64 m.k.p,.slice A m.k.al.length a,.int .i64 m.c.p,.slice B m.c.st.length b,.slice C m.c.outs.length c,.slice D m.vs.length d,.slice E m.op.length e,.int .i64 m.rd,.bool m.bad]):=by rw [← hw1];exact (Blk.new w0 _ _).grow (gbA (gbR _ _) _)
 have D3:Hid (Blk w1 (w0.heap.size+1) 58 #[.int .i64 0,.slice none 0 0,.int .i64 0,.slice none 0 0,.slice none 0 0,.slice none 0 0,.slice none 0 0,.int .i64 0,.bool false]):=by rw [← hw1];exact Blk.new' _ _ _ _ (by simp)
 have R1:=zH (hR.grow GW.out);have P00:=zH hR.va;have WM:=zH wm;clear h hR wm
 go_enter Tryz.func65,Tryz.ntmps65
 go_wp2_with fail;clear hw1;have hlz:w0.heap.size+2≤w1.heap.size:=by have:=z1.out;omega
 obtain ⟨d0,d1,d2,d3,d4,d5,d6,d7,d8⟩:=D1.out.c9
 refine Zg [.rd (.pointer (some ⟨w0.heap.size,0,none⟩)),.rd (.agg #[.int .i64 m.k.p,.slice A m.k.al.length a]),.ch,.rd (.pointer (some ⟨w0.heap.size,2,none⟩)),.rd (.agg #[.int .i64 m.c.p,.slice B m.c.st.length b,.slice C m.c.outs.length c]),.ch,.rd (.pointer (some ⟨w0.heap.size,6,none⟩)),.rd (.slice E m.op.length e),.ch,.rd (.pointer (some ⟨w0.heap.size,7,none⟩)),.rd (.int .i64 m.rd),.rd (.pointer (some ⟨w0.heap.size,8,none⟩)),.rd (.bool m.bad),.ch,.fl (isBox w1.heap.size 58 #[.int .i64 0,.slice none 0 0,.int .i64 0,.slice none 0 0,.slice none 0 0,.slice none 0 0,.slice none 0 0,.int .i64 0,.bool false]),.ch] (fun _=>False)
  [⟨[],fun _ w'=>w1.drew.grownBy w' none⟩,
   ⟨[8],fun l w'=>keyL (w0.heap.size+2) m.k (l.getD 0 undef) w'⟩,
   ⟨[8,11],fun l w'=>keyArL (w0.heap.size+2) m.k m.c (l.getD 0 undef) (l.getD 1 undef) w'⟩,
   ⟨[8,11,14],fun l w'=>keyArO (w0.heap.size+2) m (l.getD 0 undef) (l.getD 1 undef) (l.getD 2 undef) w'⟩,
   ⟨[19],fun l w'=>eng0 (w0.heap.size+2) m (l.getD 0 undef) w'⟩,
   ⟨[3],fun l w'=>∃g,l.getD 0 undef=.pointer (some ⟨g,0,none⟩)∧w1.heap.size≤g∧sofF (w0.heap.size+2) 58 (Zd m.noV) g w'∧w1.grownBy w' none⟩]
  (by kernel_rfl) (by kernel_rfl) (by kernel_rfl) 5 (by kernel_rfl) ?_ (gbR _ _) rfl ?_ ?_
 ·have hst:Zn [⟨[],fun _ w'=>w1.drew.grownBy w' none⟩,⟨[8],fun l w'=>keyL (w0.heap.size+2) m.k (l.getD 0 undef) w'⟩,⟨[8,11],fun l w'=>keyArL (w0.heap.size+2) m.k m.c (l.getD 0 undef) (l.getD 1 undef) w'⟩,⟨[8,11,14],fun l w'=>keyArO (w0.heap.size+2) m (l.getD 0 undef) (l.getD 1 undef) (l.getD 2 undef) w'⟩,⟨[19],fun l w'=>eng0 (w0.heap.size+2) m (l.getD 0 undef) w'⟩,⟨[3],fun l w'=>∃g,l.getD 0 undef=.pointer (some ⟨g,0,none⟩)∧w1.heap.size≤g∧sofF (w0.heap.size+2) 58 (Zd m.noV) g w'∧w1.grownBy w' none⟩]:=by
   refine Zm (fun l w1 w2 h hg=>gbT h hg) ?_;refine Zm (ZE fun l w1 w2 h hg=>h.grow hg) ?_;refine Zm (ZE fun l w1 w2 h hg=>h.grow hg) ?_;refine Zm (ZE fun l w1 w2 h hg=>h.grow hg) ?_;refine Zm (ZE fun l w1 w2 h hg=>h.grow hg) ?_;refine Zm (ZE fun l w1 w2 ⟨g,h1,h2,h3,h4⟩ hg=>⟨g,h1,h2,h3.grow hg,gbT h4 hg⟩) YO
  simp only [flOk,true_and,and_true];exact ⟨Vm _ _ _,hst⟩
 ·simp only [hopsK,hopK,Kd.next,and_true]
  refine ⟨?_, ?_, ?_, ?_, ?_, ?_, ?_, ?_, ?_, ?_, ?_, ?_, ?_, ?_, ?_, ?_⟩;rotate_left 2
  ·intro f w4 hG hI hd
   have hg4:=gbT (gbD (gbR w1 none)) (chgF hG);have hz4:=hg4.size
   (try simp at hd)
   (first | simp [hd] | simp)
   clear hd;go_wp2_with fail;refine (implcopyKeys_c m.k _ w4 (R1.out.ky.grow hg4) WM.out.k).mono ?_;rintro e w6 ⟨v6,rfl,o6,g6⟩;have O6:=zH (keyL.of (o6.lo (show w0.heap.size+2≤w4.heap.size by omega)));have G6:=zH g6;clear o6 g6;go_wp2_with fail;exact ⟨_,rfl,O6.out,⟨Chg.of G6.out (by simp),by simp [keepsC,dstAt];exact fun h=>Vm _ _ _ _ _ _ h G6.out⟩⟩
  rotate_left 2
  ·intro f w4 hG hI hd
   have hg4:=gbT (gbD (gbR w1 none)) (chgF hG);have hz4:=hg4.size;have H8:Hid (keyL (w0.heap.size+2) m.k (f 8) w4):=hI;clear hI
   (try simp at hd)
   (first | simp [hd] | simp)
   clear hd;go_wp2_with fail;refine (Qi m.c _ w4 (R1.out.ar.grow hg4) WM.out.c).mono ?_;rintro e w6 ⟨v6,rfl,o6,g6⟩;have O6:=zH (keyArL.of H8.out g6 o6 (by omega));have G6:=zH g6;clear o6 g6;go_wp2_with fail;exact ⟨_,rfl,O6.out,⟨Chg.of G6.out (by simp),by simp [keepsC,dstAt];exact fun h=>Vm _ _ _ _ _ _ h G6.out⟩⟩
  rotate_left 2
  ·intro f w4 hG hI hd
   have hg4:=gbT (gbD (gbR w1 none)) (chgF hG);have hz4:=hg4.size;have H8:Hid (keyArL (w0.heap.size+2) m.k m.c (f 8) (f 11) w4):=hI;clear hI;have II:=zH ((cints_rd' (CS.grow _ R1.out.opn hg4)).2.2.2)
   (try simp at hd)
   (first | simp [hd] | simp)
   clear hd;go_wp2_with fail;refine (Qv E m.op.length e m.op w4 II.out (by have:=WM.out.op;omega)).mono ?_;rintro e w6 ⟨v6,rfl,o6,g6⟩;obtain ⟨E',i',rfl,_⟩:=Ye o6;have O6:=zH (keyArO.of H8.out g6 o6 (by omega));have G6:=zH g6;clear o6 g6;go_wp2_with fail;exact ⟨_,rfl,O6.out,⟨Chg.of G6.out (by simp),by simp [keepsC,dstAt];exact fun h=>Vm _ _ _ _ _ _ h G6.out⟩⟩
  rotate_left 4
  ·intro f w4 hG hI hd
   have hg4:=gbT (gbD (gbR w1 none)) (chgF hG);have hz4:=hg4.size;have H8:keyArO (w0.heap.size+2) m (f 8) (f 11) (f 14) w4:=hI;obtain ⟨A,n,c,B,q,d,C,r,e,E,o,i,e8,e11,e14,o7⟩:=eng0.of H8 (by omega);have HA:=zH o7;clear o7 H8 hI
   (try simp at hd)
   simp [puts,dsts,Act.put,hd,e8,e11,e14];clear hd;go_wp2_with fail;exact ⟨_,rfl,HA.out,⟨Chg.refl _ _,by simp [keepsC,dstAt]⟩⟩
  ·intro f w4 hG hd
   have hg4:=gbT (gbD (gbR w1 none)) (chgF hG);have hz4:=hg4.size;clear hd;simp [puts,dsts,Act.put];go_wp2_with fail;exact ⟨_,rfl,⟨_,rfl,hg4.size,Blk.new w4 _ _⟩,gbA (gbR _ _) _⟩
  ·intro f w4 hG hI hd
   have hg4:=gbT (gbD (gbR w1 none)) (chgF hG);have hz4:=hg4.size;have o8:eng0 (w0.heap.size+2) m (f 19) w4:=hI;obtain ⟨A,n,c,B,q,d,C,r,e,E,o,i,e8,F,o9,l9⟩:=o8
   (try simp at hd)
   obtain ⟨⟨g,e3,hg,R4⟩,hd⟩:=hd;obtain ⟨f0,f1,f2,f3,f4,f5,f6,f7,f8⟩:=R4.f9;obtain ⟨b0,b1,b2,b3,b4,b5,b6,b7,b8⟩:=R4.c9;have hgF:=Qw (Xx m.noV) o9 R4 (by decide);have RS:=SOF.store R4 (us:=[.int .i64 m.k.p,.slice A n c,.int .i64 m.c.p,.slice B q d,.slice C r e,.slice none 0 0,.slice E o i,.int .i64 m.rd,.bool m.bad]) rfl o9 hgF;have GS:=Zv hg4 (Zc g [.int .i64 m.k.p,.slice A n c,.int .i64 m.c.p,.slice B q d,.slice C r e,.slice none 0 0,.slice E o i,.int .i64 m.rd,.bool m.bad] 0 w4) hg;simp only [ZW,Nat.zero_add,Nat.reduceAdd] at RS GS;have RS:=zH RS;have GS:=zH GS;simp [puts,dsts,Act.put,hd,e8,e3];clear hd R4;go_wp2_with fail;exact ⟨rfl,.bool false,g,e3,hg,⟨F,RS.out,l9⟩,GS.out⟩
  all_goals
   intro f w4 hG hd;have hg4:=gbT (gbD (gbR w1 none)) (chgF hG);have k0:=gbk hg4 (d0);have k1:=gbk hg4 (d1);have k2:=gbk hg4 (d2);have k3:=gbk hg4 (d3);have k4:=gbk hg4 (d4);have k5:=gbk hg4 (d6);have k6:=gbk hg4 (d7);have k7:=gbk hg4 (d8)
   (try simp at hd)
   (first | simp [hd] | simp)
   clear hd;go_wp2_with fail;exact ⟨rfl,rfl⟩
 intro f w9 hI hd;simp only [puts,dsts,Act.put,zB,zC,zA,zD,zE];obtain ⟨g,e3,hg,hS,hG⟩:=hI;have e3:f 3=.pointer (some ⟨g,0,none⟩):=e3;rw [e3];have HS:=zH hS;have G1:=zH hG;have K1:=zH (D1.out.grow hG);obtain ⟨H,hH⟩:∃H,w0.heap.size+2=H:=⟨_,rfl⟩;have hHl:w0.heap.size+1<H:=by omega
 rw [hH] at HS hlz;have hHg:H≤g:=by omega
 have hHw:w0.heap.size≤H:=by omega
 have P0:=P00;clear P00;have D9:=zH (D3.out.grow hG);have WV:=zH WM.out.vs;obtain ⟨n,hn⟩:∃n,m.vs.length=n:=⟨_,rfl⟩;rw [hn] at K1 P0;have LN:=zH hn;have hbn:n≤1048576:=by have:=WM.out.n;omega
 have b5:=K1.out.cell 5;simp at b5;have GV:=zH (gbT GW.out hG);clear hd e3 hS hG hH hn d0 d1 d2 d3 d4 d5 d6 d7 d8 D1 D3 R1 WM z1 GW;go_wp2_with fail
 go_loopw [23] (fun i wr=>∃k:Nat,k≤n∧i=.int .i64 k∧Hid (sofF H 58 (Zd { m with vs:=m.vs.take k }) g wr)∧Hid (Blk wr (w0.heap.size+1) 58 #[.int .i64 0,.slice none 0 0,.int .i64 0,.slice none 0 0,.slice none 0 0,.slice none 0 0,.slice none 0 0,.int .i64 0,.bool false])∧Hid (w0.grownBy wr none)) (fun i _=>n - (intOf i).toNat)
 case atStart=>exact ⟨0,Nat.zero_le _,rfl,HS,D9,GV⟩
 case round =>
  clear HS GV D9;obtain ⟨k,hk,rfl,ho,hD,hg⟩:=hrel
  by_cases hlt:k<n
  ·have i1:(k:Int)<(n:Int):=by omega
   obtain ⟨b,o,x,Bx,dx,Cx,fx,rfl,hb,hx,q0,q1,hX⟩:=ZL (CS.grow _ P0.out hg.out) hlt;obtain ⟨F,hS,hl⟩:=ho.out;obtain ⟨V,d5,F5,v5,f5,o5,m5,g5,lt5,up5,_⟩:=hS.val;have hk':(m.vs.take k).length=k:=by rw [List.length_take];have:=LN.out;omega
   rw [show (EM.vs { m with vs:=m.vs.take k })=m.vs.take k from rfl,hk'] at v5 o5;have SG:=zH hS;have O5:=zH o5;have HX:=zH hX;have WX:=zH (WV.out x (List.mem_of_getElem? hx));have HXX:=zH hx;have UP:=zH up5;have LT5:=zH lt5;have LL:=zH hl;have M5:=zH m5;clear hS hX o5 up5 hl m5 hx lt5;go_wp2_with fail;obtain ⟨wy,hwy⟩:∃y:World,wr.alloc (.cells #[.slice Bx x.sh.length dx,.slice Cx x.mc.length fx] 80)=y:=⟨_,rfl⟩;have GY:Hid (wr.grownBy wy none):=by rw [← hwy];exact gbA (gbR _ _) _
   have BX:Hid (Blk wy wr.heap.size 80 #[.slice Bx x.sh.length dx,.slice Cx x.mc.length fx]):=by rw [← hwy];exact Blk.new _ _ _
   rw [hwy];clear hwy;have gV:=fun y (hy:(Value.slice V k d5).ownBlock=some y)=>row_ob O5.out hy;have gy:=GY.out.size
   refine Zg [.rd (.pointer (some ⟨g,5,none⟩)),.rd (.slice V k d5),.rd (.agg #[.slice Bx x.sh.length dx,.slice Cx x.mc.length fx]),.ch,.ch,.ch,.rd (.pointer (some ⟨g,5,none⟩)),.ch] (fun y=>(Value.slice V k d5).ownBlock=some y)
    [⟨[],fun _ w'=>w'=wy.drew⟩,
     ⟨[30],fun l w'=>autF wy.heap.size x (l.getD 0 undef) w'∧wy.drew.grownBy w' none⟩,
     ⟨[30,31],fun l w'=>∃w5 u0 u1,w'=w5.alloc (.cells #[u0,u1] 80)∧l.getD 1 undef=.slice (some ⟨w5.heap.size,0,none⟩) 1 1∧l.getD 0 undef=.agg #[u0,u1]∧autF wy.heap.size x (.agg #[u0,u1]) w5∧wy.drew.grownBy w5 none⟩,
     ⟨[32],fun l w'=>Chg (fun y=>y∈F5) wy.drew w'∧∃F,(cauths (m.vs.take (k+1))).own w' F (l.getD 0 undef)∧∀y∈F,y∈F5∨wr.heap.size≤y⟩,
     ⟨[],fun _ w'=>sofF H 58 (Zd { m with vs:=m.vs.take (k+1) }) g w'∧Blk w' (w0.heap.size+1) 58 #[.int .i64 0,.slice none 0 0,.int .i64 0,.slice none 0 0,.slice none 0 0,.slice none 0 0,.slice none 0 0,.int .i64 0,.bool false]∧w0.grownBy w' none⟩]
    (by kernel_rfl) (by kernel_rfl) (by kernel_rfl) 4 (by kernel_rfl) (by simp only [flOk,and_true]) rfl rfl ?_ ?_
   ·simp only [hopsK,hopK,Kd.next,and_true]
    refine ⟨?_, ?_, ?_, ?_, ?_, ?_, ?_, ?_⟩;rotate_left 1
    ·intro f w4 hG hd
     have b5:=hG.cell (gbk (gbD GY.out) v5) (by have:=SG.out.ltg;simp;omega) (fun e=>g5 (gV g e))
     (try simp at hd)
     (first | simp [hd] | simp)
     clear hd;go_wp2_with fail;exact ⟨rfl,rfl⟩
    ·intro f w4 hG hd
     have B4:=(BX.out.grow (gbD (gbR wy none))).chg hG (fun e=>by have:=LT5.out _ (gV _ e);omega);have b0:=B4.cell 0;have b1:=B4.cell 1;simp at b0 b1;clear B4
     (try simp at hd)
     (first | simp [hd] | simp)
     clear hd;go_wp2_with fail;exact ⟨rfl,rfl⟩
    ·intro f w4 hG hI hd
     have hI:w4=wy.drew:=hI;subst hI
     (try simp at hd)
     (first | simp [hd] | simp)
     clear hd;go_wp2_with fail;refine (implcopyAuth_c x _ wy.drew (HX.out.grow (gbD GY.out)) WX.out).mono ?_;rintro e w6 ⟨v6,rfl,o6,g6⟩;have O6:=zH o6;have G6:=zH g6;clear o6 g6;go_wp2_with fail;exact ⟨_,rfl,⟨O6.out,G6.out⟩,⟨Chg.of G6.out (by simp),by simp [keepsC,dstAt]⟩⟩
    ·intro f w4 hG hI hd
     obtain ⟨h1,h2⟩:=hI;have h1:autF wy.heap.size x (f 30) w4:=h1;obtain ⟨A9,n9,c9,B9,k9,d9,e30⟩:=h1.form;rw [e30] at h1;clear hd;simp [puts,dsts,Act.put,e30];go_wp2_with fail;exact ⟨_,rfl,⟨w4,_,_,rfl,rfl,e30,h1,h2⟩,⟨Chg.of (gbA (gbR _ none) _) (by simp),by simp [keepsC,dstAt]⟩⟩
    ·intro f w4 hG hI hd
     obtain ⟨w5,u0,u1,rfl,e31,e30,h1,h2⟩:=hI;have e31:f 31=.slice (some ⟨w5.heap.size,0,none⟩) 1 1:=e31;obtain ⟨_,_,_,_,_,_,Fx,e,hx,lx⟩:=h1.own;injection e with e;injection e with e;injection e with e1 e;injection e with e2 _;subst e1;subst e2
     (try simp at hd)
     simp [puts,dsts,Act.put,hd,e31];have hs5:=h2.size;have gg5:wr.grownBy w5 none:=gbT GY.out (gbT (gbD (gbR _ _)) h2);obtain ⟨vs,ho,hob,hpush⟩:=Vi (Zj _ O5.out gg5);rw [hk'] at ho hpush;have hLT:=LT5.out;refine wp_appendG w5 w5.heap.size rfl elAuth rfl (.tmp 28) (.tmp 31) rfl #[.slice _ _ _,.slice _ _ _] rfl (by simp [Value.oneCell']) 0 (.slice V k d5) k vs ho rfl rfl (by unfold maxLen;omega) (by omega) (Nat.zero_le _) ?_;intro v' w7 o7 g7a k7;have g7:=gbT (gbA (gbR w5 _) _) g7a;have hx7:=hx.chg (Chg.of (S:=fun y=>(Value.slice V k d5).ownBlock=some y) g7 (fun g hg=>hg)) (fun y hy hy'=>by have:=lx y hy;have:=hLT y (gV y hy');omega)
     obtain ⟨F',k1,k2⟩:=hpush w7 v' _ _ x Fx o7 g7 (fun g hg=>(k7 g hg).imp id (fun h=>Nat.le_of_lt h)) hx7 (fun y hy hy'=>by have:=lx y hy;have:=hLT y hy';omega) (fun y hy hy'=>by
      rcases k7 y hy with h3 | h3
      ·have:=lx y hy';have:=hLT y (gV y h3.symm);omega
      ·have:=hx.lt y hy';omega)
     have hfl:m.vs.take k ++ [x]=m.vs.take (k+1):=by rw [List.take_add_one,HXX.out];rfl
     rw [hfl] at k1;obtain ⟨B',n'',s'',rfl⟩:=ZJ k1;go_wp2_with fail;refine ⟨_,rfl,⟨(Chg.of h2 (by simp)).trans (Chg.of g7 (fun g hg=>gV g hg)),F',k1,fun y hy => ?_⟩,⟨Chg.of g7a (fun g hg=>hg),by simp [keepsC,dstAt]⟩⟩
     rcases k2 y hy with h3 | h3 | h3
     ·exact .inl h3
     ·exact .inr (by simp at hs5;omega)
     ·exact .inr (by have:=lx y h3;omega)
    rotate_left 1
    ·intro f w4 hG hI hd
     obtain ⟨hch,F',o6,l6⟩:=hI;have o6:(cauths (m.vs.take (k+1))).own w4 F' (f 32):=o6;obtain ⟨B',n',s',e32⟩:=ZJ o6;rw [e32] at o6;have hch2:Chg (fun y=>y∈F5) wr w4:=(Chg.of (gbT GY.out (gbD (gbR _ none))) (by simp)).trans hch;have b5:=hch2.cell v5 SG.out.ltg g5;have q5:=hch2.frozen f5 SG.out.ltg g5;obtain ⟨F'',s1,s2⟩:=UP.out w4 _ _ _ hch2 o6 l6
     (try simp at hd)
     simp [puts,dsts,Act.put,hd,e32];clear hd;go_wp2_with fail;have hgw:=SG.out.ltg;have hF5:∀y∈F5,H≤y:=fun y hy=>LL.out y (M5.out y hy);refine ⟨rfl,.bool false,⟨F'',s1,fun y hy => ?_⟩,(hD.out.chg hch2 (fun hy=>by have:=hF5 _ hy;omega)).far (p:=⟨g,5,none⟩) (by simp;omega) _, ?_⟩
     ·rcases s2 y hy with h3 | h3
      ·exact LL.out y h3
      ·omega
     ·exact gbS (gbChg hg.out hch2 (fun y hy=>by have:=hF5 y hy;omega)) (by simp;omega) _
    all_goals
     intro f w4 hG hd
     (try simp at hd)
     (first | simp [hd] | simp)
     clear hd;go_wp2_with fail;exact ⟨rfl,rfl⟩
   intro f w8 hI hd;simp only [puts,dsts,Act.put,zB,zC,zA,zD,zE];obtain ⟨h1,h2,h3⟩:=hI;have K1:=zH h1;have K2:=zH h2;have K3:=zH h3;clear hd h1 h2 h3;go_wp2_with fail
   go_roundw
   case rel=>exact ⟨k+1,by omega,by go_num,K1,K2,K3⟩
   case measure=>simp [intOf];omega
  ·have hkn:k=n:=by omega
   subst hkn;obtain ⟨F,hS,hl⟩:=ho.out;have ht:m.vs.take k=m.vs:=List.take_of_length_le (by have:=LN.out;omega);rw [ht] at hS;have hS:SOF 58 (Zd m) g F wr:=hS;obtain ⟨A',B',C',D',E',a',b',c',d',e',hB,hR⟩:=hS.eng;have HA:=hS.is (us:=[_,_,_,_,_,_,_,_,_]) hB;obtain ⟨b0,b1,b2,b3,b4,b5,b6,b7,b8⟩:=hB.c9;obtain ⟨c0,c1,c2,c3,c4,c5,c6,c7,c8⟩:=hD.out.c9;obtain ⟨f0,f1,f2,f3,f4,f5,f6,f7,f8⟩:=hD.out.f9;have RS:=SOF.store hD.out (us:=[.int .i64 m.k.p,.slice A' m.k.al.length a',.int .i64 m.c.p,.slice B' m.c.st.length b',.slice C' m.c.outs.length c',.slice D' m.vs.length d',.slice E' m.op.length e',.int .i64 m.rd,.bool m.bad]) rfl HA (fun hx=>by have:=hl _ hx;omega);have GS:=Zv hg.out (Zc (w0.heap.size+1) [.int .i64 m.k.p,.slice A' m.k.al.length a',.int .i64 m.c.p,.slice B' m.c.st.length b',.slice C' m.c.outs.length c',.slice D' m.vs.length d',.slice E' m.op.length e',.int .i64 m.rd,.bool m.bad] 0 wr) (by omega);simp only [ZW,Nat.zero_add,Nat.reduceAdd] at RS GS;obtain ⟨vs,hBR,hAR⟩:=RS.agg;have HAR:=zH hAR;have HBR:=zH hBR;have GS:=zH GS;have HL:=zH hl;clear hS hB hR HA RS hAR hBR hl ho hD;go_wp2_with fail;refine Yo Tryz.results65 (by rfl) Wg (cs:=vs.toArray) HBR.out (by rw [List.size_toArray];exact XL HAR.out) (by rfl) ?_;exact ⟨_,rfl,⟨F,HAR.out,fun x hx=>by have:=HL.out x hx;omega⟩,GS.out⟩
end Go.Proofs.YthaadgdeadbhkaaGreat
