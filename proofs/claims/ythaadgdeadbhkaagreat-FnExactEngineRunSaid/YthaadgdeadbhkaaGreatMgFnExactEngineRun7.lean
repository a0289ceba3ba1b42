/-
 FAdd,FSub,FMul,FSum: reference and program,on elements.
-/
import Derived.Test.YthaadgdeadbhkaaGreatMgFnExactEngineRun6
open Go.RowKit
set_option linter.unusedVariables false
set_option linter.unusedSimpArgs false
namespace Go.Proofs.YthaadgdeadbhkaaGreat
theorem fsub_i {p a b:Int}:(a - b+p) % p=(a - b) % p:=by rw [Int.add_emod_right]
theorem fsub_s {p a b:Int}:(a+p - b) % p=(a - b) % p:=by rw [show a+p - b=a - b+p by omega,Int.add_emod_right]
set_option maxHeartbeats 400000 in
theorem VE (p a b:Int) (w:World) (ha:elemB p a=true) (hb:elemB p b=true) :
  Calls Tryz.prog 102 #[.int .i64 p,.int .i64 a,.int .i64 b] w fun e w'=>e=.returned (.int .i64 ((a+b) % p))∧w.grownBy w' none:=by
 obtain ⟨_,p2,p101,a0,a1⟩:=Yt ha;obtain ⟨_,_,_,b0,b1⟩:=Yt hb;have HA:=zH ha;have HB:=zH hb;clear ha hb
 go_enter Tryz.func102,Tryz.ntmps102
 go_wp2_with fail;refine (XK p a b _ (by omega)).mono ?_;rintro e w1 ⟨rfl,rfl⟩;rw [HA.out,HB.out,Bool.and_self];go_wp2_with fail;go_ret;exact ⟨rfl,gbR _ _⟩
set_option maxHeartbeats 400000 in
theorem VF (p a b:Int) (w:World) (ha:elemB p a=true) (hb:elemB p b=true) :
  Calls Tryz.prog 68 #[.int .i64 p,.int .i64 a,.int .i64 b] w fun e w'=>e=.returned (.int .i64 ((a+b) % p))∧w.grownBy w' none:=by
 obtain ⟨_,p2,p101,a0,a1⟩:=Yt ha;obtain ⟨_,_,_,b0,b1⟩:=Yt hb;have HE:Hid (elemsB p [a,b]=true):=by unfold Hid;rw [VB,ha,hb];rfl
 clear ha hb
 go_enter Tryz.func68,Tryz.ntmps68
 go_wp2_with fail;refine (Zu p _ 2 2 [a,b] _ (by omega) (by omega) (ints2 w 3 a b) (by omega)).mono ?_;rintro e w1 ⟨rfl,rfl⟩;rw [HE.out];go_wp2_with fail;go_ret;exact ⟨rfl,gbA (gbR _ _) _⟩
set_option maxHeartbeats 400000 in
theorem WD (p a b:Int) (w:World) (ha:elemB p a=true) (hb:elemB p b=true) :
  Calls Tryz.prog 142 #[.int .i64 p,.int .i64 a,.int .i64 b] w fun e w'=>e=.returned (.int .i64 ((a - b) % p))∧w.grownBy w' none:=by
 obtain ⟨_,p2,p101,a0,a1⟩:=Yt ha;obtain ⟨_,_,_,b0,b1⟩:=Yt hb;have HA:=zH ha;have HB:=zH hb;clear ha hb;rw [← fsub_s]
 go_enter Tryz.func142,Tryz.ntmps142
 go_wp2_with fail;refine (XK p a b _ (by omega)).mono ?_;rintro e w1 ⟨rfl,rfl⟩;rw [HA.out,HB.out,Bool.and_self];go_wp2_with fail;go_ret;exact ⟨rfl,gbR _ _⟩
set_option maxHeartbeats 400000 in
theorem UR (p a b:Int) (w:World) (ha:elemB p a=true) (hb:elemB p b=true) :
  Calls Tryz.prog 133 #[.int .i64 p,.int .i64 a,.int .i64 b] w fun e w'=>e=.returned (.int .i64 ((a - b) % p))∧w.grownBy w' none:=by
 obtain ⟨_,p2,p101,a0,a1⟩:=Yt ha;obtain ⟨_,_,_,b0,b1⟩:=Yt hb;have HE:Hid (elemsB p [a,b]=true):=by unfold Hid;rw [VB,ha,hb];rfl
 clear ha hb;rw [← fsub_i]
 go_enter Tryz.func133,Tryz.ntmps133
 go_wp2_with fail;refine (Zu p _ 2 2 [a,b] _ (by omega) (by omega) (ints2 w 3 a b) (by omega)).mono ?_;rintro e w1 ⟨rfl,rfl⟩;rw [HE.out];go_wp2_with fail;go_ret;exact ⟨rfl,gbA (gbR _ _) _⟩
set_option maxHeartbeats 400000 in
theorem WE (p a b:Int) (w:World) (ha:elemB p a=true) (hb:elemB p b=true) :
  Calls Tryz.prog 100 #[.int .i64 p,.int .i64 a,.int .i64 b] w fun e w'=>e=.returned (.int .i64 ((a*b) % p))∧w.grownBy w' none:=by
 obtain ⟨_,p2,p101,a0,a1⟩:=Yt ha;obtain ⟨_,_,_,b0,b1⟩:=Yt hb;have HA:=zH ha;have HB:=zH hb;clear ha hb;obtain ⟨m0,m1⟩:=prod_le a0 b0 (show a≤101 by omega) (show b≤101 by omega)
 go_enter Tryz.func100,Tryz.ntmps100
 go_wp2_with fail;refine (XK p a b _ (by omega)).mono ?_;rintro e w1 ⟨rfl,rfl⟩;rw [HA.out,HB.out,Bool.and_self];go_wp2_with fail;go_ret;exact ⟨rfl,gbR _ _⟩
set_option maxHeartbeats 400000 in
theorem WF (p a b:Int) (w:World) (ha:elemB p a=true) (hb:elemB p b=true) :
  Calls Tryz.prog 121 #[.int .i64 p,.int .i64 a,.int .i64 b] w fun e w'=>e=.returned (.int .i64 ((a*b) % p))∧w.grownBy w' none:=by
 obtain ⟨_,p2,p101,a0,a1⟩:=Yt ha;obtain ⟨_,_,_,b0,b1⟩:=Yt hb;have HE:Hid (elemsB p [a,b]=true):=by unfold Hid;rw [VB,ha,hb];rfl
 clear ha hb;obtain ⟨m0,m1⟩:=prod_le a0 b0 (show a≤101 by omega) (show b≤101 by omega)
 go_enter Tryz.func121,Tryz.ntmps121
 go_wp2_with fail;refine (Zu p _ 2 2 [a,b] _ (by omega) (by omega) (ints2 w 3 a b) (by omega)).mono ?_;rintro e w1 ⟨rfl,rfl⟩;rw [HE.out];go_wp2_with fail;go_ret;exact ⟨rfl,gbA (gbR _ _) _⟩
def fsum (p:Int) (l:List Int):Int:=l.sum % p
theorem fsum_step {p:Int} {l:List Int} {k:Nat} (hk:k<l.length):(fsum p (l.take k)+l.getD k 0) % p=fsum p (l.take (k+1)):=by
 unfold fsum;rw [VC l k hk,List.sum_append,Int.emod_add_emod];simp
theorem Ux {p:Int} (hp:2≤p) (l:List Int):0≤fsum p l∧fsum p l<p:=⟨Int.emod_nonneg _ (by omega),Int.emod_lt_of_pos _ (by omega)⟩
theorem Yh {p:Int} (hf:fieldB p=true) (l:List Int):elemB p (fsum p l)=true:=by
 obtain ⟨h1,h2⟩:=ZF hf;obtain ⟨h3,h4⟩:=Ux h1 l;exact Yu hf h3 h4
theorem Yb {p:Int} (hf:fieldB p=true) (x:Int):elemB p (x % p)=true:=by
 obtain ⟨h1,h2⟩:=ZF hf;exact Yu hf (Int.emod_nonneg _ (by omega)) (Int.emod_lt_of_pos _ (by omega))
set_option maxHeartbeats 400000 in
theorem XR (p:Int) (A:Option Addr) (n c:Nat) (zs:List Int) (w:World) (h:elemsB p zs=true) (hx:Ints w A n zs) (hn:n≤4611686018427387903) :
  Calls Tryz.prog 143 #[.int .i64 p,.slice A n c] w fun e w'=>e=.returned (.int .i64 (fsum p zs))∧w=w':=by
 obtain ⟨hf,p2,p101,hz⟩:=ZP h;have HE:=zH h;have LX:=zH hx.len;have HX:=zH hx;clear h hf
 go_enter Tryz.func143,Tryz.ntmps143
 go_wp2_with fail;refine (ZU p A n c zs _ (by omega) HX.out hn).mono ?_;rintro e w1 ⟨rfl,rfl⟩;rw [HE.out];go_wp2_with fail
 go_loop [5,6] (fun z i=>∃k:Nat,k≤n∧i=.int .i64 k∧z=.int .i64 (fsum p (zs.take k))) (fun _ i=>n - (intOf i).toNat)
 case atStart=>exact ⟨0,Nat.zero_le _,rfl,by simp [fsum]⟩
 case round =>
  obtain ⟨k,hk,rfl,rfl⟩:=hrel;obtain ⟨s0,s1⟩:=Ux p2 (zs.take k)
  by_cases hlt:k<n
  ·obtain ⟨b,o,rfl,hb,hc⟩:=HX.out.at_ (by omega)
   have c0:=hc k hlt;have i1:(k:Int)<(n:Int):=by omega
   have HS:=zH (fsum_step (p:=p) (l:=zs) (k:=k) (by have:=LX.out;omega));have hzk:=hz (zs.getD k 0) (by rw [getI zs k (by have:=LX.out;omega)];exact List.getElem_mem ..);obtain ⟨z0,z1⟩:=hzk;generalize fsum p (zs.take k)=s at *;generalize zs.getD k 0=y at *;clear hc hz;go_wp2_with fail
   go_round
   case rel=>exact ⟨k+1,by omega,by go_num,by rw [← HS.out]⟩
   case measure=>simp [intOf];omega
  ·have hkn:k=n:=by omega
   subst hkn;have HT:Hid (fsum p (zs.take k)=fsum p zs):=by unfold Hid;rw [List.take_of_length_le (by have:=LX.out;omega)]
   generalize fsum p (zs.take k)=s at *;go_wp2_with fail;go_ret;exact ⟨retI HT.out,rfl⟩
set_option maxHeartbeats 400000 in
theorem WG (p:Int) (A:Option Addr) (n c:Nat) (zs:List Int) (w:World) (h:elemsB p zs=true) (hx:Ints w A n zs) (hn:n≤4611686018427387903) :
  Calls Tryz.prog 135 #[.int .i64 p,.slice A n c] w fun e w'=>e=.returned (.int .i64 (fsum p zs))∧w=w':=by
 obtain ⟨hf,p2,p101,hz⟩:=ZP h;have HE:=zH h;have LX:=zH hx.len;have HX:=zH hx;clear h hf
 go_enter Tryz.func135,Tryz.ntmps135
 go_wp2_with fail;refine (Zu p A n c zs _ (by omega) (by omega) HX.out hn).mono ?_;rintro e w1 ⟨rfl,rfl⟩;rw [HE.out];go_wp2_with fail
 go_loop [5,14] (fun z i=>∃k:Nat,k≤n∧i=.int .i64 k∧z=.int .i64 (fsum p (zs.take k))) (fun _ i=>n - (intOf i).toNat)
 case atStart=>exact ⟨0,Nat.zero_le _,rfl,by simp [fsum]⟩
 case round =>
  obtain ⟨k,hk,rfl,rfl⟩:=hrel;obtain ⟨s0,s1⟩:=Ux p2 (zs.take k)
  by_cases hlt:k<n
  ·obtain ⟨b,o,rfl,hb,hc⟩:=HX.out.at_ (by omega)
   have c0:=hc k hlt;have i1:(k:Int)<(n:Int):=by omega
   have HS:=zH (fsum_step (p:=p) (l:=zs) (k:=k) (by have:=LX.out;omega));have hzk:=hz (zs.getD k 0) (by rw [getI zs k (by have:=LX.out;omega)];exact List.getElem_mem ..);obtain ⟨z0,z1⟩:=hzk;generalize fsum p (zs.take k)=s at *;generalize zs.getD k 0=y at *;clear hc hz;go_wp2_with fail
   go_round
   case rel=>exact ⟨k+1,by omega,by go_num,by rw [← HS.out]⟩
   case measure=>simp [intOf];omega
  ·have hkn:k=n:=by omega
   subst hkn;have HT:Hid (fsum p (zs.take k)=fsum p zs):=by unfold Hid;rw [List.take_of_length_le (by have:=LX.out;omega)]
   generalize fsum p (zs.take k)=s at *;go_wp2_with fail;go_ret;exact ⟨retI HT.out,rfl⟩
def lit1X (H:Nat) (e:TypeId) (cs:Array Value) (v:Value) (w:World):Prop:=∃g,v=.slice (some ⟨g,0,none⟩) 1 1∧H≤g∧Blk w g e cs
theorem lit1X_st {H:Nat} {e:TypeId} {cs:Array Value}:stable (lit1X H e cs):=fun v w w' ⟨g,h1,h2,h3⟩ hg=>⟨g,h1,h2,h3.grow hg⟩
theorem chgDr {S:Nat→Prop} {w w':World} (h:Chg S w.drew w'):Chg S w w':=⟨h.os,h.tape,h.output,h.size,h.block⟩
def shareL (p x:Int) (L:List Int):List Int:=L ++ [(x - fsum p L) % p]
theorem UT (p x:Int) (L:List Int):(shareL p x L).length=L.length+1:=by simp [shareL]
theorem Ql {p x:Int} {L:List Int} (h:elemsB p L=true):elemsB p (shareL p x L)=true:=by
 obtain ⟨hf,p2,p101,hz⟩:=ZP h;refine Xh hf fun a ha => ?_
 rcases List.mem_append.1 ha with ha | ha
 ·exact hz a ha
 ·have:a=(x - fsum p L) % p:=by simpa using ha
  subst this;exact ⟨Int.emod_nonneg _ (by omega),Int.emod_lt_of_pos _ (by omega)⟩
theorem shareL_sum {p x:Int} {L:List Int} (h0:0≤x) (h1:x<p):fsum p (shareL p x L)=x:=by
 unfold fsum shareL;rw [List.sum_append];simp only [List.sum_cons,List.sum_nil,Int.add_zero];rw [Int.add_emod_emod,show fsum p L=L.sum % p from rfl,← Int.add_sub_assoc,Int.sub_emod_emod,show L.sum+x - L.sum=x by omega];exact Int.emod_eq_of_lt h0 h1
theorem VG {P s a k:Nat} (hf:fieldB (P:Int)=true) (h0:0<P):elemsB (P:Int) (tapeL s a P k)=true:=Xh hf fun z hz=>tapeL_rng h0 z hz
theorem Kk (s a:Nat) (w:World) (hs:s<4294967296) (ha:a≤900000) :
  Calls Tryz.prog 41 #[.agg #[.int .i64 s,.int .i64 a]] w fun e w'=>e=.returned (.bool true)∧w.grownBy w' none:=by
 have d1:=zH (Ys hs (show a≤1000000 by omega));have d2:decide ((a:Int)≤900000)=true:=by simp;omega
 go_enter Tryz.func41,Tryz.ntmps41
 go_wp2_with fail;refine (YN s a _).mono ?_;rintro e w1 ⟨rfl,g1⟩;rw [d1.out];have B1:=Blk.grow (Blk.new w 41 #[.int .i64 s,.int .i64 a]) g1;have c0:=B1.cell 0;have c1:=B1.cell 1;simp at c0 c1;have G1:=zH (gbT (gbA (gbR w none) _) g1);clear g1 B1;go_wp2_with fail;go_ret;exact ⟨rfl,G1.out⟩
structure KM where
 p:Int
 al:List Int
abbrev ckeys (m:KM):List CS:=[ci m.p,cints m.al]
def KM.sz (m:KM):Nat:=m.al.length
def KM.cnt (k:Int) (m:KM):Int:=k+m.al.length
def KM.mkd (k:Int) (m:KM):KM:={ m with al:=marks (k) m.al.length }
def KM.wf (m:KM):Prop:=i64w m.p∧(∀z∈m.al,i64w z)
theorem stKeys:St Tryz.prog 34 2:=⟨⟨_,Tryz.underlying34,rfl⟩,by kernel_rfl⟩
theorem YI {w:World} {m:KM} {v:Value} (h:AggR w (ckeys m) v):∃u1,v=.agg #[(.int .i64 m.p),u1]∧(cints m.al).rd w u1:=by
 obtain ⟨vs,rfl,h⟩:=h;obtain ⟨u0,vs0,rfl,h0,h⟩:=RdAll.head h;obtain ⟨u1,vs1,rfl,h1,h⟩:=RdAll.head h;obtain rfl:=RdAll.none h;obtain rfl:=ci_rd h0;exact ⟨u1,rfl,h1⟩
theorem ckeys_mk {w:World} {m:KM} {u1:Value} (h1:(cints m.al).rd w u1):AggR w (ckeys m) (.agg #[(.int .i64 m.p),u1]):=⟨_,rfl,(RdAll.cons (ci_mk _ _) (RdAll.cons h1 (RdAll.nil _)))⟩
theorem Xu {w:World} {m:KM} {F:List Nat} {v:Value} (h:AggO w (ckeys m) F v):∃(A1:Option Addr) (n1 s1:Nat),v=.agg #[(.int .i64 m.p),(.slice A1 n1 s1)]:=by
 obtain ⟨vs,Fs,rfl,h,rfl⟩:=h;obtain ⟨u0,vs0,F0,Fs0,rfl,rfl,h0,h,d0⟩:=OwnAll.head h;obtain ⟨u1,vs1,F1,Fs1,rfl,rfl,h1,h,d1⟩:=OwnAll.head h;obtain ⟨rfl,rfl⟩:=OwnAll.none h;obtain ⟨rfl,rfl,_⟩:=h0;obtain ⟨A1,n1,s1,rfl⟩:=ZO h1;exact ⟨A1,n1,s1,rfl⟩
theorem Kl {w:World} {m:KM} {F:List Nat} {v:Value} (h:AggO w (ckeys m) F v):∃u1 F1,v=.agg #[(.int .i64 m.p),u1]∧F=[[],F1].flatten∧(cints m.al).own w F1 u1:=by
 obtain ⟨vs,Fs,rfl,h,rfl⟩:=h;obtain ⟨u0,vs0,F0,Fs0,rfl,rfl,h0,h,d0⟩:=OwnAll.head h;obtain ⟨u1,vs1,F1,Fs1,rfl,rfl,h1,h,d1⟩:=OwnAll.head h;obtain ⟨rfl,rfl⟩:=OwnAll.none h;obtain ⟨rfl,rfl,_⟩:=h0;exact ⟨u1,F1,rfl,rfl,h1⟩
theorem Uy {w:World} {m:KM} {u1:Value} {F1:List Nat} (h1:(cints m.al).own w F1 u1)  : AggO w (ckeys m) [[],F1].flatten (.agg #[(.int .i64 m.p),u1]):=⟨_,_,rfl,(OwnAll.cons (Qi _ _) (OwnAll.cons h1 (OwnAll.nil _) (fun g hg=>by simp)) (by simp)),rfl⟩
set_option maxHeartbeats 1000000 in
theorem QL (m:KM) (v:Value) (w:World) (h:AggR w (ckeys m) v) (hn:m.sz≤1048576) :
  Calls Tryz.prog 10 #[v] w fun e w'=>∃u F,e=.returned u∧AggO w' (ckeys m) F u∧(∀g∈F,w.heap.size≤g)∧w.grownBy w' none:=by
 obtain ⟨u1,rfl,h1⟩:=YI h;have HN:=zH hn;have H1:=zH h1;clear h hn h1
 go_enter Tryz.func10,Tryz.ntmps10
 go_wp2_with fail;obtain ⟨x0,e0⟩:∃x:World,x=((w.alloc (.cells #[(.int .i64 m.p),u1] 24)).alloc (.cells #[(.int .i64 0),(.slice none 0 0)] 34)).alloc (.cells #[(.int .i64 m.p),(.slice none 0 0)] 34):=⟨_,rfl⟩;have A1:Hid (Blk x0 w.heap.size 24 #[(.int .i64 m.p),u1]):=by rw [e0];exact ((Blk.new w _ _).grow (gbA (gbR _ _) _)).grow (gbA (gbR _ _) _)
 have A2:Hid (Blk x0 (w.heap.size+1) 34 #[(.int .i64 0),(.slice none 0 0)]):=by rw [e0];exact (Blk.new' _ _ _ _ (by simp)).grow (gbA (gbR _ _) _)
 have A3:Hid (Blk x0 (w.heap.size+1+1) 34 #[(.int .i64 m.p),(.slice none 0 0)]):=by rw [e0];exact Blk.new' _ _ _ _ (by simp)
 have G0:Hid (w.grownBy x0 none):=by rw [e0];exact gbA (gbA (gbA (gbR _ _) _) _) _
 have Z0:x0.heap.size=w.heap.size+1+1+1:=by rw [e0];simp
 try rw [← e0]
 clear e0;have R:=CS.grow _ H1.out G0.out;refine (XA m.al u1 _ R (by have:=HN.out;unfold KM.sz at this;omega)).mono ?_;rintro e x1 ⟨v1,F1,rfl,o1,l1,g1⟩;obtain ⟨B1,n1,s1,rfl⟩:=ZO o1;have Z1:=g1.size
 try simp at Z1
 have L1:Hid (∀g∈F1,x0.heap.size≤g):=fun g hg=>by have:=l1 g hg;simpa using this
 have O1:=zH o1;have Q1:Hid (∀g∈F1,g<x1.heap.size):=fun g hg=>CS.lt _ o1 g hg;have E1:=zH (Blk.grow (A1.out) g1);have E2:=zH (Blk.grow (A2.out) g1);have E3:=zH (Blk.grow (A3.out) g1);have G1:=zH (gbT (G0.out) g1);clear R l1 g1 o1 A1 A2 A3 G0;have A1:=E1;have A2:=E2;have A3:=E3;clear E1 E2 E3;have K2:=zH ((((A2.out).far (p:=⟨w.heap.size+1+1,1,none⟩) (by first | (simp;done) | (simp;omega)) (.slice B1 n1 s1)).set_ 0 (.int .i64 m.p)).set_ 1 (.slice B1 n1 s1));have KG:=zH (gbS (gbS (gbS (G1.out) (p:=⟨w.heap.size+1+1,1,none⟩) (by simp;omega) (.slice B1 n1 s1)) (p:=⟨w.heap.size+1,0,none⟩) (by simp) (.int .i64 m.p)) (p:=⟨w.heap.size+1,1,none⟩) (by simp) (.slice B1 n1 s1));have P1:=zH (YK _ (YK _ (YK _ (O1.out) ⟨w.heap.size+1+1,1,none⟩ (fun hg=>by have:=L1.out _ hg;simp at this;omega) (.slice B1 n1 s1)) ⟨w.heap.size+1,0,none⟩ (fun hg=>by have:=L1.out _ hg;simp at this;omega) (.int .i64 m.p)) ⟨w.heap.size+1,1,none⟩ (fun hg=>by have:=L1.out _ hg;simp at this;omega) (.slice B1 n1 s1));have d:=A3.out;have d0:=A3.out.cell 0;have f0:=A3.out.frozen 0;have b0:=A2.out.cell 0;have t0:=A2.out.frozen 0;have d1:=A3.out.cell 1;have f1:=A3.out.frozen 1;have b1:=A2.out.cell 1;have t1:=A2.out.frozen 1;clear d;simp at d0 d1 b0 b1;clear A1 A2 A3 G1;go_wp2_with fail;refine YF Tryz.results10 (by rfl) stKeys (cs:=#[(.int .i64 m.p),(.slice B1 n1 s1)]) ?B (by rfl) (by rfl) ?_
 case B=>exact K2.out
 refine ⟨_,_,rfl,Uy P1.out ,fun g hg => ?_,KG.out⟩;simp at hg
 skip
 have:=L1.out g hg;omega
set_option maxHeartbeats 1000000 in
theorem eqKeys_k (m:KM) (v u:Value) (w:World) (h:AggR w (ckeys m) v) (k:AggR w (ckeys m) u) (hn:m.sz≤1048576) :
  Calls Tryz.prog 16 #[v,u] w fun e w'=>e=.returned (.bool true)∧w.grownBy w' none:=by
 obtain ⟨u1,rfl,h1⟩:=YI h;obtain ⟨t1,rfl,k1⟩:=YI k;have HN:=zH hn;have H1:=zH h1;have K1:=zH k1;clear h k hn h1 k1
 go_enter Tryz.func16,Tryz.ntmps16
 have A1:Hid (Blk ((w.alloc (.cells #[(.int .i64 m.p),u1] 34)).alloc (.cells #[(.int .i64 m.p),t1] 34)) w.heap.size 34 #[(.int .i64 m.p),u1]):=(Blk.new w _ _).grow (gbA (gbR _ _) _);have A2:Hid (Blk ((w.alloc (.cells #[(.int .i64 m.p),u1] 34)).alloc (.cells #[(.int .i64 m.p),t1] 34)) (w.heap.size+1) 34 #[(.int .i64 m.p),t1]):=Blk.new' _ _ _ _ (by simp);have G0:Hid (w.grownBy ((w.alloc (.cells #[(.int .i64 m.p),u1] 34)).alloc (.cells #[(.int .i64 m.p),t1] 34)) none):=gbA (gbA (gbR _ _) _) _;go_wp2_with fail;refine (Vd m.al u1 t1 _ (CS.grow _ H1.out G0.out) (CS.grow _ K1.out G0.out) (by have:=HN.out;unfold KM.sz at this;omega)).mono ?_;rintro e x1 ⟨rfl,g1⟩;have G1:=zH (gbT G0.out g1);have E1:=zH (Blk.grow A1.out g1);have E2:=zH (Blk.grow A2.out g1);clear A1 A2 g1;have A1:=E1;have A2:=E2;clear E1 E2;go_wp2_with fail;go_ret;exact ⟨rfl,G1.out⟩
set_option maxHeartbeats 1000000 in
theorem szKeys_k (m:KM) (v:Value) (l:Nat) (w:World) (h:AggR w (ckeys m) v) (hl:l≤1048576) :
  Calls Tryz.prog 7 #[v,.int .i64 l] w fun e w'=>e=.returned (.int .i64 (szO l m.sz))∧w.grownBy w' none:=by
 obtain ⟨u1,rfl,h1⟩:=YI h;have H1:=zH h1;clear h h1;have A0:=zH (Blk.new w 24 #[(.int .i64 m.p),u1]);have G0:=zH (gbA (gbR w none) (.cells #[(.int .i64 m.p),u1] 24))
 by_cases b0:m.al.length≤l
 ·have C0:=zH (Ww b0)
  have Y0:=zH b0;clear b0
  go_enter Tryz.func7,Tryz.ntmps7
  go_wp2_with fail;refine (QK m.al u1 (l) _ (CS.grow _ H1.out G0.out) (by omega)).mono ?_;rintro e x1 ⟨rfl,g1⟩;rw [C0.out];have G1:=zH (gbT G0.out g1);have A1:=zH (Blk.grow A0.out g1);have s0:¬((l - m.al.length:Nat):Int)<0:=by omega
  clear g1;go_wp2_with fail;go_ret;exact ⟨retI (by have:=Y0.out;rw [Ww (by unfold KM.sz;omega)];unfold KM.sz;omega),G1.out⟩
 ·have C0:=zH (VQ (Nat.lt_of_not_le b0))
  have N0:=zH b0;clear b0
  go_enter Tryz.func7,Tryz.ntmps7
  go_wp2_with fail;refine (QK m.al u1 (l) _ (CS.grow _ H1.out G0.out) (by omega)).mono ?_;rintro e x1 ⟨rfl,g1⟩;rw [C0.out];have G1:=zH (gbT G0.out g1);have A1:=zH (Blk.grow A0.out g1);clear g1;go_wp2_with fail;go_ret;exact ⟨retI (by rw [VQ];have:=N0.out;unfold KM.sz;omega),G1.out⟩
set_option maxHeartbeats 1000000 in
theorem markKeys_k (m:KM) (v:Value) (F:List Nat) (k:Int) (w:World) (h:AggO w (ckeys m) F v) (hn:m.sz≤1048576) (h0:0≤k) (h1:k≤17179869184) :
  Calls Tryz.prog 18 #[v,.int .i64 k] w fun e w'=>e=.returned (.int .i64 (m.cnt k))∧AggO w' (ckeys (m.mkd k)) F v∧Chg (fun g=>g∈F) w w':=by
 obtain ⟨u1,F1,rfl,rfl,h1⟩:=Kl h;have q1:m.al.length≤1048576:=by unfold KM.sz at hn;omega
 have V1:Hid (∀g∈F1,g<w.heap.size):=CS.lt _ h1;have A0:=zH (Blk.new w 34 #[(.int .i64 m.p),u1]);have G0:=zH (gbA (gbR w none) (.cells #[(.int .i64 m.p),u1] 34));have P1:=zH (Zi _ h1 G0.out);have M0:Hid (Chg (fun g=>g∈[[],F1].flatten) (w.alloc (.cells #[(.int .i64 m.p),u1] 34)) (w.alloc (.cells #[(.int .i64 m.p),u1] 34))):=Chg.refl _ _;clear h hn h1
 go_enter Tryz.func18,Tryz.ntmps18
 go_wp2_with fail;refine (Wz m.al u1 F1 (k) _ P1.out (by omega) (by omega) (by omega)).mono ?_;rintro e x1 ⟨rfl,o1,g1⟩;have N1:=zH o1;clear P1;have P1:=N1;clear N1;have A1:=zH (Yc A0.out g1 (fun hg=>by have:=V1.out _ hg;omega));have M1:=zH (M0.out.trans (g1.mono (fun g hg=>by simp [hg])));clear o1 g1 A0 M0;go_wp2_with fail;go_ret;have hM:=M1.out;refine ⟨rfl,Uy (m:=m.mkd k) P1.out ,⟨hM.os,hM.tape,hM.output,Nat.le_trans G0.out.size hM.size,fun i hi hs=>(hM.block i (Nat.lt_of_lt_of_le hi G0.out.size) hs).trans (G0.out.block i hi (by simp))⟩⟩
structure AuM where
 sh:List Int
 mc:List Int
abbrev cauth (m:AuM):List CS:=[cints m.sh,cints m.mc]
def AuM.sz (m:AuM):Nat:=m.sh.length+m.mc.length
def AuM.cnt (k:Int) (m:AuM):Int:=k+m.sh.length+m.mc.length
def AuM.mkd (k:Int) (m:AuM):AuM:={ m with sh:=marks (k) m.sh.length,mc:=marks (k+m.sh.length) m.mc.length }
def AuM.wf (m:AuM):Prop:=(∀z∈m.sh,i64w z)∧(∀z∈m.mc,i64w z)
theorem stAuth:St Tryz.prog 80 2:=⟨⟨_,Tryz.underlying80,rfl⟩,by kernel_rfl⟩
theorem cauth_open {w:World} {m:AuM} {v:Value} (h:AggR w (cauth m) v):∃u0 u1,v=.agg #[u0,u1]∧(cints m.sh).rd w u0∧(cints m.mc).rd w u1:=by
 obtain ⟨vs,rfl,h⟩:=h;obtain ⟨u0,vs0,rfl,h0,h⟩:=RdAll.head h;obtain ⟨u1,vs1,rfl,h1,h⟩:=RdAll.head h;obtain rfl:=RdAll.none h;exact ⟨u0,u1,rfl,h0,h1⟩
theorem VH {w:World} {m:AuM} {u0 u1:Value} (h0:(cints m.sh).rd w u0) (h1:(cints m.mc).rd w u1):AggR w (cauth m) (.agg #[u0,u1]):=⟨_,rfl,(RdAll.cons h0 (RdAll.cons h1 (RdAll.nil _)))⟩
theorem cauth_oform {w:World} {m:AuM} {F:List Nat} {v:Value} (h:AggO w (cauth m) F v):∃(A0:Option Addr) (n0 s0:Nat) (A1:Option Addr) (n1 s1:Nat),v=.agg #[(.slice A0 n0 s0),(.slice A1 n1 s1)]:=by
 obtain ⟨vs,Fs,rfl,h,rfl⟩:=h;obtain ⟨u0,vs0,F0,Fs0,rfl,rfl,h0,h,d0⟩:=OwnAll.head h;obtain ⟨u1,vs1,F1,Fs1,rfl,rfl,h1,h,d1⟩:=OwnAll.head h;obtain ⟨rfl,rfl⟩:=OwnAll.none h;obtain ⟨A0,n0,s0,rfl⟩:=ZO h0;obtain ⟨A1,n1,s1,rfl⟩:=ZO h1;exact ⟨A0,n0,s0,A1,n1,s1,rfl⟩
theorem Uf {w:World} {m:AuM} {F:List Nat} {v:Value} (h:AggO w (cauth m) F v):∃u0 u1 F0 F1,v=.agg #[u0,u1]∧F=[F0,F1].flatten∧(cints m.sh).own w F0 u0∧(cints m.mc).own w F1 u1∧(∀g∈F0,g∉F1):=by
 obtain ⟨vs,Fs,rfl,h,rfl⟩:=h;obtain ⟨u0,vs0,F0,Fs0,rfl,rfl,h0,h,d0⟩:=OwnAll.head h;obtain ⟨u1,vs1,F1,Fs1,rfl,rfl,h1,h,d1⟩:=OwnAll.head h;obtain ⟨rfl,rfl⟩:=OwnAll.none h;exact ⟨u0,u1,F0,F1,rfl,rfl,h0,h1,fun g hg hg'=>d0 g hg (by simp [hg'])⟩
theorem cauth_omk {w:World} {m:AuM} {u0 u1:Value} {F0 F1:List Nat} (h0:(cints m.sh).own w F0 u0) (h1:(cints m.mc).own w F1 u1) (d01:∀g∈F0,g∉F1):AggO w (cauth m) [F0,F1].flatten (.agg #[u0,u1]):=⟨_,_,rfl,(OwnAll.cons h0 (OwnAll.cons h1 (OwnAll.nil _) (fun g hg=>by simp)) (fun g hg=>by simp [d01 g hg])),rfl⟩
end Go.Proofs.YthaadgdeadbhkaaGreat
