/-
 copyKeys,copyArith of the program.
-/
import Derived.Test.YthaadgdeadbhkaaGreatMgFnExactEngineRound20
open Go.RowKit
set_option linter.unusedVariables false
set_option linter.unusedSimpArgs false
namespace Go.Proofs.YthaadgdeadbhkaaGreat
attribute [local simp] depsC dstAt kAt bindE List.filter_cons Zy Zp Zq Zr Zz Yu
set_option maxHeartbeats 2000000 in
set_option maxRecDepth 100000 in
theorem implcopyKeys_c (k:KM) (kv:Value) (w0:World) (h:AggR w0 (ckeys k) kv) (wk:kwf k) :
  Calls Tryz.prog 113 #[kv] w0 fun e w'=>∃v,e=.returned v∧aggF w0.heap.size (ckeys k) v w'∧w0.grownBy w' none:=by
 obtain ⟨A,c,rfl,hc,hm,hI⟩:=ZK h;obtain ⟨w1,hw1⟩:∃x:World,((w0.alloc (.cells #[.int .i64 k.p,.slice A k.al.length c] 34)).alloc (.cells #[.int .i64 0,.slice none 0 0] 34))=x:=⟨_,rfl⟩;have GW:Hid (w0.grownBy w1 none):=by rw [← hw1];exact gbA (gbA (gbR _ _) _) _
 have z1:Hid (w1.heap.size=w0.heap.size+2):=by rw [← hw1];exact zH (by simp)
 have D1:Hid (Blk w1 w0.heap.size 34 #[.int .i64 k.p,.slice A k.al.length c]):=by rw [← hw1];exact (Blk.new w0 _ _).grow (gbA (gbR _ _) _)
 have D3:Hid (Blk w1 (w0.heap.size+1) 34 #[.int .i64 0,.slice none 0 0]):=by rw [← hw1];exact Blk.new' _ _ _ _ (by simp)
 have IS:=zH (hI.grow GW.out);have WK:=zH wk.2;clear h hI wk
 go_enter Tryz.func113,Tryz.ntmps113
 go_wp2_with fail;clear hw1;have hlz:w0.heap.size+2≤w1.heap.size:=by have:=z1.out;omega
 have d0:=D1.out.cell 0;have d1:=D1.out.cell 1;simp at d0 d1
 refine Zg [.rd (.pointer (some ⟨w0.heap.size,0,none⟩)),.rd (.int .i64 k.p),.rd (.pointer (some ⟨w0.heap.size,1,none⟩)),.rd (.slice A k.al.length c),.ch,.ch,.ch] (fun _=>False)
  [⟨[],fun _ w'=>w1.drew.grownBy w' none⟩,
   ⟨[7],fun l w'=>ownF (w0.heap.size+2) (cints k.al) (l.getD 0 undef) w'⟩,
   ⟨[8],fun l w'=>aggF (w0.heap.size+2) (ckeys k) (l.getD 0 undef) w'⟩,
   ⟨[],fun _ w'=>∃F,SOF 34 (ckeys k) (w0.heap.size+1) F w'∧(∀x∈F,w0.heap.size≤x)∧w0.grownBy w' none⟩]
  (by kernel_rfl) (by kernel_rfl) (by kernel_rfl) 3 (by kernel_rfl) (by simp only [flOk,and_true]) (gbR _ _) rfl ?_ ?_
 ·simp only [hopsK,hopK,Kd.next,and_true]
  refine ⟨?_, ?_, ?_, ?_, ?_, ?_, ?_⟩;rotate_left 4
  ·intro f w4 hG hI hd
   have hg4:=gbT (gbD (gbR w1 none)) (chgF hG);have hz4:=hg4.size
   (try simp at hd)
   (first | simp [puts,dsts,Act.put,hd] | simp [puts,dsts,Act.put])
   clear hd;go_wp2_with fail;refine (Qv A k.al.length c k.al w4 (IS.out.grow hg4) (by have:=WK.out;omega)).mono ?_;rintro e w6 ⟨v6,rfl,o6,g6⟩;have O6:=zH (ownF.ints (ZQ o6 (show w0.heap.size+2≤w4.heap.size by omega)));have G6:=zH g6;clear o6 g6;go_wp2_with fail;exact ⟨_,rfl,O6.out,⟨Chg.of G6.out (by simp),by simp [keepsC]⟩⟩
  ·intro f w4 hG hI hd
   have hg4:=gbT (gbD (gbR w1 none)) (chgF hG);have hz4:=hg4.size;obtain ⟨F,o7,l7⟩:=hI;have o7:(cints k.al).own w4 F (f 7):=o7;obtain ⟨B1,n1,c1,e7⟩:=ZJ o7;rw [e7] at o7
   (try simp at hd)
   simp [puts,dsts,Act.put,hd,e7];clear hd;go_wp2_with fail;exact ⟨_,rfl,⟨_,XN o7,fun x hx=>l7 x (by simpa using hx)⟩,⟨Chg.refl _ _,by simp [keepsC]⟩⟩
  ·intro f w4 hG hI hd
   have hg4:=gbT (gbD (gbR w1 none)) (chgF hG);have hz4:=hg4.size;obtain ⟨F,o8,l8⟩:=hI;have o8:AggO w4 (ckeys k) F (f 8):=o8;obtain ⟨B1,n1,c1,e8⟩:=Wc o8;rw [e8] at o8;have R4:=D3.out.grow hg4;have f0:=R4.frozen 0;have f1:=R4.frozen 1;have b0:=R4.cell 0;have b1:=R4.cell 1;simp at b0 b1;have RS:=zH (SOF.store R4 (us:=[.int .i64 k.p,.slice B1 n1 c1]) rfl o8 (fun hx=>by have:=l8 _ hx;omega));have GS:=zH (Zv (gbT GW.out hg4) (Zc (w0.heap.size+1) [.int .i64 k.p,.slice B1 n1 c1] 0 w4) (by omega))
   (try simp at hd)
   simp [puts,dsts,Act.put,hd,e8];clear hd R4;go_wp2_with fail;exact ⟨rfl,.bool false,F,RS.out,fun x hx=>by have:=l8 x hx;omega,GS.out⟩
  all_goals
   intro f w4 hG hd;have hg4:=gbT (gbD (gbR w1 none)) (chgF hG);have k0:=gbk hg4 (d0);have k1:=gbk hg4 (d1)
   (try simp at hd)
   (first | simp [puts,dsts,Act.put,hd] | simp [puts,dsts,Act.put])
   clear hd;go_wp2_with fail;exact ⟨rfl,rfl⟩
 intro f w9 hI hd;simp only [puts,dsts,Act.put,zB,zC,zA,zD,zE];obtain ⟨F,hS,hl,hG⟩:=hI;obtain ⟨vs,hB,hA⟩:=hS.agg;have HA:=zH hA;have HL:=zH hl;have HG:=zH hG;clear hd hS hA hl hG d0 d1;go_wp2_with fail;refine Yo Tryz.results113 (by rfl) stKeys (cs:=vs.toArray) hB (by rw [List.size_toArray];exact XL HA.out) (by rfl) ?_;exact ⟨_,rfl,⟨F,HA.out,HL.out⟩,HG.out⟩
end Go.Proofs.YthaadgdeadbhkaaGreat
namespace Go.Proofs.YthaadgdeadbhkaaGreat
attribute [local simp] depsC dstAt kAt bindE List.filter_cons Zy Zp Zq Zr Zz Yu
structure amwf (m:AM):Prop where
 wf:m.wf
 st:m.st.length≤1048576
 outs:m.outs.length≤1048576
set_option maxHeartbeats 2000000 in
set_option maxRecDepth 100000 in
theorem Qi (m:AM) (v:Value) (w0:World) (h:AggR w0 (carith m) v) (wm:amwf m) :
  Calls Tryz.prog 114 #[v] w0 fun e w'=>∃v,e=.returned v∧aggF w0.heap.size (carith m) v w'∧w0.grownBy w' none:=by
 obtain ⟨u1,u2,rfl,h1,h2⟩:=ZA h;obtain ⟨A,c,rfl,hc,hm,hF⟩:=ZX (s:=3) (fun _=>rfl) (by omega) h1;obtain ⟨B,d,rfl,hd1,hm2,hJ⟩:=ZF h2;obtain ⟨w1,hw1⟩:∃x:World,((w0.alloc (.cells #[.int .i64 m.p,.slice A m.st.length c,.slice B m.outs.length d] 38)).alloc (.cells #[.int .i64 0,.slice none 0 0,.slice none 0 0] 38))=x:=⟨_,rfl⟩;have GW:Hid (w0.grownBy w1 none):=by rw [← hw1];exact gbA (gbA (gbR _ _) _) _
 have z1:Hid (w1.heap.size=w0.heap.size+2):=by rw [← hw1];exact zH (by simp)
 have D1:Hid (Blk w1 w0.heap.size 38 #[.int .i64 m.p,.slice A m.st.length c,.slice B m.outs.length d]):=by rw [← hw1];exact (Blk.new w0 _ _).grow (gbA (gbR _ _) _)
 have D3:Hid (Blk w1 (w0.heap.size+1) 38 #[.int .i64 0,.slice none 0 0,.slice none 0 0]):=by rw [← hw1];exact Blk.new' _ _ _ _ (by simp)
 have IF:=zH (FL.grow hF GW.out);have IJ:=zH (hJ.grow GW.out);have WM:=zH wm;clear h h1 h2 hF hJ wm
 go_enter Tryz.func114,Tryz.ntmps114
 go_wp2_with fail;clear hw1;have hlz:w0.heap.size+2≤w1.heap.size:=by have:=z1.out;omega
 have d0:=D1.out.cell 0;have d1:=D1.out.cell 1;have d2:=D1.out.cell 2;simp at d0 d1 d2
 refine Zg [.rd (.pointer (some ⟨w0.heap.size,0,none⟩)),.rd (.int .i64 m.p),.ch,.rd (.pointer (some ⟨w0.heap.size,1,none⟩)),.rd (.slice A m.st.length c),.ch,.rd (.pointer (some ⟨w0.heap.size,2,none⟩)),.rd (.slice B m.outs.length d),.ch,.ch,.ch] (fun _=>False)
  [⟨[],fun _ w'=>w1.drew.grownBy w' none⟩,
   ⟨[5],fun l w'=>∃g,l.getD 0 undef=.slice (some ⟨g,0,none⟩) 0 0∧w'.ownsRow 0 102 3 (.slice (some ⟨g,0,none⟩) 0 0) 0 []∧w1.heap.size≤g⟩,
   ⟨[8],fun l w'=>ownF (w0.heap.size+2) (csteps m.st) (l.getD 0 undef) w'⟩,
   ⟨[8,11],fun l w'=>ownL (w0.heap.size+2) [csteps m.st,cints m.outs] [l.getD 0 undef,l.getD 1 undef] w'⟩,
   ⟨[12],fun l w'=>aggF (w0.heap.size+2) (carith m) (l.getD 0 undef) w'⟩,
   ⟨[],fun _ w'=>∃F,SOF 38 (carith m) (w0.heap.size+1) F w'∧(∀x∈F,w0.heap.size≤x)∧w0.grownBy w' none⟩]
  (by kernel_rfl) (by kernel_rfl) (by kernel_rfl) 5 (by kernel_rfl) (by simp only [flOk,and_true]) (gbR _ _) rfl ?_ ?_
 ·simp only [hopsK,hopK,Kd.next,and_true]
  refine ⟨?_, ?_, ?_, ?_, ?_, ?_, ?_, ?_, ?_, ?_, ?_⟩;rotate_left 2
  ·intro f w4 hG hI hd
   have hg4:=gbT (gbD (gbR w1 none)) (chgF hG);have hz4:=hg4.size;clear hd;simp [puts,dsts,Act.put];go_wp2_with fail;exact ⟨_,rfl,⟨_,rfl,World.ownsRow_made w4 #[] 0 (Nat.zero_le _) (by simp) rfl,hg4.size⟩,⟨Chg.of (gbA (gbR _ none) _) (by simp),by simp [keepsC]⟩⟩
  rotate_left 2
  ·intro f w4 hG hI hd
   have hg4:=gbT (gbD (gbR w1 none)) (chgF hG);have hz4:=hg4.size;obtain ⟨g,e5,o5,l5⟩:=hI;have e5:f 5=.slice (some ⟨g,0,none⟩) 0 0:=e5
   (try simp at hd)
   simp [puts,dsts,Act.put,hd,e5];clear hd
   go_wp2_with (at_builtin;refine wp_appendE w4 elStep rfl (.tmp 5) (.tmp 7) rfl g o5 rfl A m.st.length c _ rfl (FL.grow IF.out hg4).rd (fun u hu=>by obtain ⟨x,_,hx⟩:=List.mem_flatMap.1 hu;exact Uh x u hx) (by have:=WM.out.st;unfold maxLen;omega) (by have:=WM.out.st;omega) ?_;intro v6 w6 o6 g6 n6)
   have O6:Hid (ownF (w0.heap.size+2) (csteps m.st) v6 w6):=zH ⟨_,Xl (s:=3) (fun _=>rfl) (by omega) Uh o6,fun x hx=>by rcases n6 x (by simpa using hx) with h6 | h6 <;> omega⟩;exact ⟨_,rfl,O6.out,⟨Chg.of g6 (by simp),by simp [keepsC]⟩⟩
  rotate_left 2
  ·intro f w4 hG hI hd
   have hg4:=gbT (gbD (gbR w1 none)) (chgF hG);have hz4:=hg4.size;have H8:Hid (ownF (w0.heap.size+2) (csteps m.st) (f 8) w4):=hI;clear hI
   (try simp at hd)
   (first | simp [puts,dsts,Act.put,hd] | simp [puts,dsts,Act.put])
   clear hd;go_wp2_with fail;refine (Qv B m.outs.length d m.outs w4 (IJ.out.grow hg4) (by have:=WM.out.outs;omega)).mono ?_;rintro e w6 ⟨v6,rfl,o6,g6⟩;have O6:=zH (H8.out.one.app g6 (ownF.ints (lo:=w4.heap.size) o6).one (by omega));have G6:=zH g6;clear o6 g6;go_wp2_with fail;exact ⟨_,rfl,O6.out,⟨Chg.of G6.out (by simp),by simp [keepsC]⟩⟩
  ·intro f w4 hG hI hd
   have hg4:=gbT (gbD (gbR w1 none)) (chgF hG);have hz4:=hg4.size;have o7:ownL (w0.heap.size+2) [csteps m.st,cints m.outs] [f 8,f 11] w4:=hI;obtain ⟨F9,o9,l9⟩:=(o7.pl (x:=.int .i64 m.p) rfl).agg;obtain ⟨A1,n1,s1,A2,n2,s2,e⟩:=YP o9;injection e with e;injection e with e;injection e with _ e;injection e with e8 e;injection e with e11 _;rw [e8,e11] at o9
   (try simp at hd)
   simp [puts,dsts,Act.put,hd,e8,e11];clear hd;go_wp2_with fail;exact ⟨_,rfl,⟨F9,o9,l9⟩,⟨Chg.refl _ _,by simp [keepsC]⟩⟩
  ·intro f w4 hG hI hd
   have hg4:=gbT (gbD (gbR w1 none)) (chgF hG);have hz4:=hg4.size;obtain ⟨F,o8,l8⟩:=hI;have o8:AggO w4 (carith m) F (f 12):=o8;obtain ⟨A1,n1,s1,A2,n2,s2,e8⟩:=YP o8;rw [e8] at o8;have R4:=D3.out.grow hg4;have f0:=R4.frozen 0;have f1:=R4.frozen 1;have f2:=R4.frozen 2;have b0:=R4.cell 0;have b1:=R4.cell 1;have b2:=R4.cell 2;simp at b0 b1 b2;have RS:=zH (SOF.store R4 (us:=[.int .i64 m.p,.slice A1 n1 s1,.slice A2 n2 s2]) rfl o8 (fun hx=>by have:=l8 _ hx;omega));have GS:=zH (Zv (gbT GW.out hg4) (Zc (w0.heap.size+1) [.int .i64 m.p,.slice A1 n1 s1,.slice A2 n2 s2] 0 w4) (by omega))
   (try simp at hd)
   simp [puts,dsts,Act.put,hd,e8];clear hd R4;go_wp2_with fail;exact ⟨rfl,.bool false,F,RS.out,fun x hx=>by have:=l8 x hx;omega,GS.out⟩
  all_goals
   intro f w4 hG hd;have hg4:=gbT (gbD (gbR w1 none)) (chgF hG);have k0:=gbk hg4 (d0);have k1:=gbk hg4 (d1);have k2:=gbk hg4 (d2)
   (try simp at hd)
   (first | simp [puts,dsts,Act.put,hd] | simp [puts,dsts,Act.put])
   clear hd;go_wp2_with fail;exact ⟨rfl,rfl⟩
 intro f w9 hI hd;simp only [puts,dsts,Act.put,zB,zC,zA,zD,zE];obtain ⟨F,hS,hl,hG⟩:=hI;obtain ⟨vs,hB,hA⟩:=hS.agg;have HA:=zH hA;have HL:=zH hl;have HG:=zH hG;clear hd hS hA hl hG d0 d1 d2;go_wp2_with fail;refine Yo Tryz.results114 (by rfl) stArith (cs:=vs.toArray) hB (by rw [List.size_toArray];exact XL HA.out) (by rfl) ?_;exact ⟨_,rfl,⟨F,HA.out,HL.out⟩,HG.out⟩
end Go.Proofs.YthaadgdeadbhkaaGreat
namespace Go.Proofs.YthaadgdeadbhkaaGreat
theorem em1 (p a:Int):a % p % p=a % p:=Int.emod_emod_of_dvd _ (Int.dvd_refl p)
theorem mm1 (p a b:Int):(a % p*b) % p=(a*b) % p:=by rw [Int.mul_emod,em1,← Int.mul_emod]
theorem addS_sum (p:Int):∀xs ys:List Int,xs.length=ys.length→fsum p (addS p xs ys)=(fsum p xs+fsum p ys) % p
 | [],[],_=>by simp [addS,fsum]
 | [],_ :: _,h=>by simp at h
 | _ :: _,[],h=>by simp at h
 | x :: xs,y :: ys,h=>by
  have ih:=addS_sum p xs ys (by simpa using h);unfold fsum addS at *;simp only [List.zipWith_cons_cons,List.sum_cons];rw [Int.emod_add_emod,← Int.add_emod_emod,ih,Int.add_emod_emod,Int.emod_add_emod,Int.add_emod_emod,← Int.add_assoc,Int.add_emod_emod,← Int.add_assoc];rw [show x+y+xs.sum % p+ys.sum=xs.sum % p+(x+y+ys.sum) by omega,Int.emod_add_emod]
  congr 1;omega
theorem mac_add (p u v x:Int):((u*x) % p+(v*x) % p) % p=((u+v) % p*x) % p:=by
 rw [mm1,Int.emod_add_emod,Int.add_emod_emod,Int.add_mul]
structure Good (k:KM) (a:AuM) (v:Int):Prop where
 form:formB k a=true
 sh:fsum k.p a.sh=v
 mc:fsum k.p a.mc=(v*fsum k.p k.al) % k.p
theorem Qz {k:KM} {a:AuM} (h:keysB k=true) (h1:a.sh.length=k.al.length) (h2:a.mc.length=k.al.length) (h3:elemsB k.p a.sh=true) (h4:elemsB k.p a.mc=true):formB k a=true:=by
 unfold formB formA;rw [h,h1,h2,h3,h4];simp
theorem Good.rng {k:KM} {a:AuM} {v:Int} (h:Good k a v):0≤v∧v<k.p:=by
 obtain ⟨hk,_⟩:=ZN h.form;obtain ⟨hf,_⟩:=YX hk;have:=Uw (ZG hf).1 a.sh;rw [h.sh] at this;exact this
theorem Uz {k:KM} {a b:AuM} (ha:formB k a=true) (hb:formB k b=true):Zk k a b=⟨addS k.p a.sh b.sh,addS k.p a.mc b.mc⟩∧formB k (Zk k a b)=true:=by
 obtain ⟨hk,a1,a2,a3,a4,a5,a6,a7⟩:=ZN ha;obtain ⟨_,b1,b2,b3,b4,_⟩:=ZN hb;obtain ⟨hf,_⟩:=YX hk;have e:Zk k a b=⟨addS k.p a.sh b.sh,addS k.p a.mc b.mc⟩:=by unfold Zk;rw [ha,hb];rfl
 refine ⟨e, ?_⟩;rw [e];exact Qz hk (by rw [Vx (by omega)];exact a1) (by rw [Vx (by omega)];exact a2) (VT hf) (VT hf)
theorem Good.add {k:KM} {a b:AuM} {u v:Int} (ha:Good k a u) (hb:Good k b v):Good k (Zk k a b) ((u+v) % k.p):=by
 obtain ⟨hk,a1,a2,a3,a4,a5,a6,a7⟩:=ZN ha.form;obtain ⟨_,b1,b2,b3,b4,_⟩:=ZN hb.form;obtain ⟨e,f⟩:=Uz ha.form hb.form;refine ⟨f, ?_, ?_⟩
 ·rw [e,addS_sum _ _ _ (by omega),ha.sh,hb.sh]
 ·rw [e,addS_sum _ _ _ (by omega),ha.mc,hb.mc,mac_add]
theorem form_scale {k:KM} {a:AuM} {c:Int} (ha:formB k a=true) (hc:elemB k.p c=true):Ze k a c=⟨sclS k.p a.sh c,sclS k.p a.mc c⟩∧formB k (Ze k a c)=true:=by
 obtain ⟨hk,a1,a2,a3,a4,a5,a6,a7⟩:=ZN ha;have e:Ze k a c=⟨sclS k.p a.sh c,sclS k.p a.mc c⟩:=by unfold Ze;rw [ha,hc];rfl
 refine ⟨e, ?_⟩;rw [e];exact Qz hk (by rw [XJ];exact a1) (by rw [XJ];exact a2) (WI a3) (WI a4)
theorem form_const {k:KM} {a:AuM} {c:Int} (ha:formB k a=true) (hc:elemB k.p c=true):ZM k a c=⟨cstS k.p a.sh c,addS k.p a.mc (sclS k.p k.al c)⟩∧formB k (ZM k a c)=true:=by
 obtain ⟨hk,a1,a2,a3,a4,a5,a6,a7⟩:=ZN ha;obtain ⟨hf,_⟩:=YX hk;have e:ZM k a c=⟨cstS k.p a.sh c,addS k.p a.mc (sclS k.p k.al c)⟩:=by unfold ZM;rw [ha,hc];rfl
 refine ⟨e, ?_⟩;rw [e];exact Qz hk (by rw [cstS_len];exact a1) (by rw [Vx (by rw [XJ];omega)];exact a2) (cstS_elems a3) (VT hf)
theorem Good.new {k:KM} {P s a:Nat} {x:Int} (hk:keysB k=true) (hP:k.p=P) (hx:elemB k.p x=true):Good k (Qd k P s a x) x:=by
 obtain ⟨hf,he,n1,n5⟩:=YX hk;obtain ⟨_,p2,p101,x0,x1⟩:=Yp hx;have hT:∀a k',elemsB k.p (tapeL s a P k')=true:=fun a k'=>by rw [hP] at hf ⊢;exact elems_tape hf (by omega)
 have hl:∀(y:Int) (a:Nat),(shareL k.p y (tapeL s a P (k.al.length - 1))).length=k.al.length:=fun y a=>by rw [shareL_len,tapeL_len];omega
 have hy:0≤(x*fsum k.p k.al) % k.p∧(x*fsum k.p k.al) % k.p<k.p:=⟨Int.emod_nonneg _ (by omega),Int.emod_lt_of_pos _ (by omega)⟩;unfold Qd;exact ⟨Qz hk (hl _ _) (hl _ _) (Uj (hT _ _)) (Uj (hT _ _)),shareL_sum x0 x1,shareL_sum hy.1 hy.2⟩
def zerosA (n:Nat):AuM:=⟨List.replicate n 0,List.replicate n 0⟩
structure GoodT (k:KM) (x:TrM) (u v:Int):Prop where
 a:Good k x.a u
 b:Good k x.b v
 c:Good k x.c ((u*v) % k.p)
theorem form_use {k:KM} {x:TrM} {d e:Int} (ha:formB k x.a=true) (hb:formB k x.b=true) (hc:formB k x.c=true) (hd:elemB k.p d=true) (he:elemB k.p e=true) :
  Zw k x d e=ZM k (Zk k (Zk k x.c (Ze k x.b d)) (Ze k x.a e)) ((d*e) % k.p)∧formB k (Zw k x d e)=true:=by
 have hf:=(Yp hd).1;have e1:Zw k x d e=ZM k (Zk k (Zk k x.c (Ze k x.b d)) (Ze k x.a e)) ((d*e) % k.p):=by unfold Zw;rw [ha,hb,hc,hd,he];rfl
 refine ⟨e1, ?_⟩;rw [e1];exact (form_const (Uz (Uz hc (form_scale hb hd).2).2 (form_scale ha he).2).2 (Yr hf _)).2
theorem GoodT.new {k:KM} {P s a:Nat} (hk:keysB k=true) (hP:k.p=P):GoodT k (tripleNew k P s a) (tnA s a P) (tnB s a P):=by
 obtain ⟨hf,_⟩:=YX hk;obtain ⟨p2,p101⟩:=ZG hf;have h1:∀a,elemB k.p ((belN s a P:Nat):Int)=true:=fun a=>Xn hf (by omega) (by have:=belN_lt (s:=s) (a:=a) (n:=P) (by omega);omega);unfold tripleNew;exact ⟨Good.new hk hP (h1 _),Good.new hk hP (h1 _),Good.new hk hP (Yr hf _)⟩
end Go.Proofs.YthaadgdeadbhkaaGreat
