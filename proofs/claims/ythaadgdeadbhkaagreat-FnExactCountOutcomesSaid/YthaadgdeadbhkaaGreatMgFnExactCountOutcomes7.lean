/-
 Shares of an element: 'append(list,FSub(p,x,FSum(p,list))),next' and who calls it.
-/
import Derived.Test.YthaadgdeadbhkaaGreatMgFnExactCountOutcomes6
open Go.RowKit
set_option linter.unusedVariables false
set_option linter.unusedSimpArgs false
namespace Go.Proofs.YthaadgdeadbhkaaGreat
def lit1X (H:Nat) (e:TypeId) (cs:Array Value) (v:Value) (w:World):Prop:=∃g,v=.slice (some ⟨g,0,none⟩) 1 1∧H≤g∧Blk w g e cs
theorem lit1X_st {H:Nat} {e:TypeId} {cs:Array Value}:stable (lit1X H e cs):=fun v w w' ⟨g,h1,h2,h3⟩ hg=>⟨g,h1,h2,h3.grow hg⟩
theorem chgDr {S:Nat→Prop} {w w':World} (h:Chg S w.drew w'):Chg S w w':=⟨h.os,h.tape,h.output,h.size,h.block⟩
def shareL (p x:Int) (L:List Int):List Int:=L ++ [(x - fsum p L) % p]
theorem Qd (p x:Int) (L:List Int):(shareL p x L).length=L.length+1:=by simp [shareL]
theorem Qx {p x:Int} {L:List Int} (h:elemsB p L=true):elemsB p (shareL p x L)=true:=by
 obtain ⟨hf,p2,p101,hz⟩:=ZI h;refine YZ hf fun a ha => ?_
 rcases List.mem_append.1 ha with ha | ha
 ·exact hz a ha
 ·have:a=(x - fsum p L) % p:=by simpa using ha
  subst this;exact ⟨Int.emod_nonneg _ (by omega),Int.emod_lt_of_pos _ (by omega)⟩
theorem shareL_sum {p x:Int} {L:List Int} (h0:0≤x) (h1:x<p):fsum p (shareL p x L)=x:=by
 unfold fsum shareL;rw [List.sum_append];simp only [List.sum_cons,List.sum_nil,Int.add_zero];rw [Int.add_emod_emod,show fsum p L=L.sum % p from rfl,← Int.add_sub_assoc,Int.sub_emod_emod,show L.sum+x - L.sum=x by omega];exact Int.emod_eq_of_lt h0 h1
theorem VK {P s a k:Nat} (hf:fieldB (P:Int)=true) (h0:0<P):elemsB (P:Int) (tapeL s a P k)=true:=YZ hf fun z hz=>tapeL_rng h0 z hz
theorem Ky (s a:Nat) (w:World) (hs:s<4294967296) (ha:a≤900000) :
  Calls Tryz.prog 41 #[.agg #[.int .i64 s,.int .i64 a]] w fun e w'=>e=.returned (.bool true)∧w.grownBy w' none:=by
 have d1:=zH (Yw hs (show a≤1000000 by omega));have d2:decide ((a:Int)≤900000)=true:=by simp;omega
 go_enter Tryz.func41,Tryz.ntmps41
 go_wp2_with fail;refine (YO s a _).mono ?_;rintro e w1 ⟨rfl,g1⟩;rw [d1.out];have B1:=Blk.grow (Blk.new w 41 #[.int .i64 s,.int .i64 a]) g1;have c0:=B1.cell 0;have c1:=B1.cell 1;simp at c0 c1;have G1:=zH (gbT (gbA (gbR w none) _) g1);clear g1 B1;go_wp2_with fail;go_ret;exact ⟨rfl,G1.out⟩
structure KM where
 p:Int
 al:List Int
abbrev ckeys (m:KM):List CS:=[ci m.p,cints m.al]
def KM.sz (m:KM):Nat:=m.al.length
def KM.cnt (k:Int) (m:KM):Int:=k+m.al.length
def KM.mkd (k:Int) (m:KM):KM:={ m with al:=marks (k) m.al.length }
def KM.wf (m:KM):Prop:=i64w m.p∧(∀z∈m.al,i64w z)
theorem stKeys:St Tryz.prog 34 2:=⟨⟨_,Tryz.underlying34,rfl⟩,by kernel_rfl⟩
theorem ckeys_open {w:World} {m:KM} {v:Value} (h:AggR w (ckeys m) v):∃u1,v=.agg #[(.int .i64 m.p),u1]∧(cints m.al).rd w u1:=by
 obtain ⟨vs,rfl,h⟩:=h;obtain ⟨u0,vs0,rfl,h0,h⟩:=RdAll.head h;obtain ⟨u1,vs1,rfl,h1,h⟩:=RdAll.head h;obtain rfl:=RdAll.none h;obtain rfl:=ci_rd h0;exact ⟨u1,rfl,h1⟩
theorem QY {w:World} {m:KM} {u1:Value} (h1:(cints m.al).rd w u1):AggR w (ckeys m) (.agg #[(.int .i64 m.p),u1]):=⟨_,rfl,(RdAll.cons (ci_mk _ _) (RdAll.cons h1 (RdAll.nil _)))⟩
theorem Uh {w:World} {m:KM} {F:List Nat} {v:Value} (h:AggO w (ckeys m) F v):∃(A1:Option Addr) (n1 s1:Nat),v=.agg #[(.int .i64 m.p),(.slice A1 n1 s1)]:=by
 obtain ⟨vs,Fs,rfl,h,rfl⟩:=h;obtain ⟨u0,vs0,F0,Fs0,rfl,rfl,h0,h,d0⟩:=OwnAll.head h;obtain ⟨u1,vs1,F1,Fs1,rfl,rfl,h1,h,d1⟩:=OwnAll.head h;obtain ⟨rfl,rfl⟩:=OwnAll.none h;obtain ⟨rfl,rfl,_⟩:=h0;obtain ⟨A1,n1,s1,rfl⟩:=ZV h1;exact ⟨A1,n1,s1,rfl⟩
theorem ckeys_oopen {w:World} {m:KM} {F:List Nat} {v:Value} (h:AggO w (ckeys m) F v):∃u1 F1,v=.agg #[(.int .i64 m.p),u1]∧F=[[],F1].flatten∧(cints m.al).own w F1 u1:=by
 obtain ⟨vs,Fs,rfl,h,rfl⟩:=h;obtain ⟨u0,vs0,F0,Fs0,rfl,rfl,h0,h,d0⟩:=OwnAll.head h;obtain ⟨u1,vs1,F1,Fs1,rfl,rfl,h1,h,d1⟩:=OwnAll.head h;obtain ⟨rfl,rfl⟩:=OwnAll.none h;obtain ⟨rfl,rfl,_⟩:=h0;exact ⟨u1,F1,rfl,rfl,h1⟩
theorem ckeys_omk {w:World} {m:KM} {u1:Value} {F1:List Nat} (h1:(cints m.al).own w F1 u1)  : AggO w (ckeys m) [[],F1].flatten (.agg #[(.int .i64 m.p),u1]):=⟨_,_,rfl,(OwnAll.cons (Qu _ _) (OwnAll.cons h1 (OwnAll.nil _) (fun g hg=>by simp)) (by simp)),rfl⟩
structure AuM where
 sh:List Int
 mc:List Int
abbrev cauth (m:AuM):List CS:=[cints m.sh,cints m.mc]
def AuM.sz (m:AuM):Nat:=m.sh.length+m.mc.length
def AuM.cnt (k:Int) (m:AuM):Int:=k+m.sh.length+m.mc.length
def AuM.mkd (k:Int) (m:AuM):AuM:={ m with sh:=marks (k) m.sh.length,mc:=marks (k+m.sh.length) m.mc.length }
def AuM.wf (m:AuM):Prop:=(∀z∈m.sh,i64w z)∧(∀z∈m.mc,i64w z)
theorem stAuth:St Tryz.prog 80 2:=⟨⟨_,Tryz.underlying80,rfl⟩,by kernel_rfl⟩
theorem cauth_open {w:World} {m:AuM} {v:Value} (h:AggR w (cauth m) v):∃u0 u1,v=.agg #[u0,u1]∧(cints m.sh).rd w u0∧(cints m.mc).rd w u1:=by
 obtain ⟨vs,rfl,h⟩:=h;obtain ⟨u0,vs0,rfl,h0,h⟩:=RdAll.head h;obtain ⟨u1,vs1,rfl,h1,h⟩:=RdAll.head h;obtain rfl:=RdAll.none h;exact ⟨u0,u1,rfl,h0,h1⟩
theorem VM {w:World} {m:AuM} {u0 u1:Value} (h0:(cints m.sh).rd w u0) (h1:(cints m.mc).rd w u1):AggR w (cauth m) (.agg #[u0,u1]):=⟨_,rfl,(RdAll.cons h0 (RdAll.cons h1 (RdAll.nil _)))⟩
theorem cauth_oform {w:World} {m:AuM} {F:List Nat} {v:Value} (h:AggO w (cauth m) F v):∃(A0:Option Addr) (n0 s0:Nat) (A1:Option Addr) (n1 s1:Nat),v=.agg #[(.slice A0 n0 s0),(.slice A1 n1 s1)]:=by
 obtain ⟨vs,Fs,rfl,h,rfl⟩:=h;obtain ⟨u0,vs0,F0,Fs0,rfl,rfl,h0,h,d0⟩:=OwnAll.head h;obtain ⟨u1,vs1,F1,Fs1,rfl,rfl,h1,h,d1⟩:=OwnAll.head h;obtain ⟨rfl,rfl⟩:=OwnAll.none h;obtain ⟨A0,n0,s0,rfl⟩:=ZV h0;obtain ⟨A1,n1,s1,rfl⟩:=ZV h1;exact ⟨A0,n0,s0,A1,n1,s1,rfl⟩
theorem Ui {w:World} {m:AuM} {F:List Nat} {v:Value} (h:AggO w (cauth m) F v):∃u0 u1 F0 F1,v=.agg #[u0,u1]∧F=[F0,F1].flatten∧(cints m.sh).own w F0 u0∧(cints m.mc).own w F1 u1∧(∀g∈F0,g∉F1):=by
 obtain ⟨vs,Fs,rfl,h,rfl⟩:=h;obtain ⟨u0,vs0,F0,Fs0,rfl,rfl,h0,h,d0⟩:=OwnAll.head h;obtain ⟨u1,vs1,F1,Fs1,rfl,rfl,h1,h,d1⟩:=OwnAll.head h;obtain ⟨rfl,rfl⟩:=OwnAll.none h;exact ⟨u0,u1,F0,F1,rfl,rfl,h0,h1,fun g hg hg'=>d0 g hg (by simp [hg'])⟩
theorem cauth_omk {w:World} {m:AuM} {u0 u1:Value} {F0 F1:List Nat} (h0:(cints m.sh).own w F0 u0) (h1:(cints m.mc).own w F1 u1) (d01:∀g∈F0,g∉F1):AggO w (cauth m) [F0,F1].flatten (.agg #[u0,u1]):=⟨_,_,rfl,(OwnAll.cons h0 (OwnAll.cons h1 (OwnAll.nil _) (fun g hg=>by simp)) (fun g hg=>by simp [d01 g hg])),rfl⟩
def kwf (k:KM):Prop:=i64w k.p∧k.al.length≤1048576
def awf (a:AuM):Prop:=a.sh.length≤1048576∧a.mc.length≤1048576
def keysB (k:KM):Bool:=elemsB k.p k.al&&inQ k.al.length 1 5
def formA (k:KM) (a:AuM):Bool:=((a.sh.length:Int) == (k.al.length:Int))&&((a.mc.length:Int) == (k.al.length:Int))&&elemsB k.p a.sh&&elemsB k.p a.mc
def formB (k:KM) (a:AuM):Bool:=keysB k&&formA k a
theorem ZG {w:World} {k:KM} {v:Value} (h:AggR w (ckeys k) v):∃A c,v=.agg #[.int .i64 k.p,.slice A k.al.length c]∧k.al.length≤c∧c≤maxLen∧Ints w A k.al.length k.al:=by
 obtain ⟨u1,rfl,h1⟩:=ckeys_open h;obtain ⟨A,c,rfl,h2,h3,h4⟩:=Zx h1;exact ⟨A,c,rfl,h2,h3,h4⟩
theorem ZO {w:World} {a:AuM} {v:Value} (h:AggR w (cauth a) v):∃A c B d,v=.agg #[.slice A a.sh.length c,.slice B a.mc.length d]∧a.sh.length≤c∧c≤maxLen∧a.mc.length≤d∧d≤maxLen∧Ints w A a.sh.length a.sh∧Ints w B a.mc.length a.mc:=by
 obtain ⟨u0,u1,rfl,h0,h1⟩:=cauth_open h;obtain ⟨A,c,rfl,h2,h3,h4⟩:=Zx h0;obtain ⟨B,d,rfl,k2,k3,k4⟩:=Zx h1;exact ⟨A,c,B,d,rfl,h2,h3,k2,k3,h4,k4⟩
set_option maxHeartbeats 400000 in
theorem YP (k:KM) (v:Value) (w:World) (h:AggR w (ckeys k) v) (wp:kwf k) :
  Calls Tryz.prog 86 #[v] w fun e w'=>e=.returned (.bool (keysB k))∧w.grownBy w' none:=by
 obtain ⟨A,c,rfl,hc,hm,hI⟩:=ZG h;obtain ⟨⟨wp1,wp2⟩,wl⟩:=wp;unfold maxLen at hm;have HI:=zH (hI.grow (gbA (gbR w none) (.cells #[.int .i64 k.p,.slice A k.al.length c] 34)));have HK:Hid (keysB k=(elemsB k.p k.al&&inQ k.al.length 1 5)):=rfl;generalize k.al=al at *;generalize k.p=p at *;generalize hn:al.length=n at *;clear h hI hn
 cases h1:elemsB p al <;> cases h2:inQ (n:Int) 1 5
 all_goals
  rw [h1,h2] at HK
  go_enter Tryz.func86,Tryz.ntmps86
  go_wp2_with (first | (go_at_call 94;refine (YX n 1 5 _).mono ?_;rintro e w1 ⟨rfl,rfl⟩;rw [h2]) | (go_at_call 42;refine (ZQ p A n c al _ (by omega) HI.out (by omega)).mono ?_;rintro e w1 ⟨rfl,rfl⟩;rw [h1]))
  go_ret;exact ⟨retB (by rw [HK.out];rfl),gbA (gbR _ _) _⟩
set_option maxHeartbeats 400000 in
theorem YQ (k:KM) (v:Value) (w:World) (h:AggR w (ckeys k) v) (wp:kwf k) :
  Calls Tryz.prog 112 #[v] w fun e w'=>e=.returned (.bool (keysB k))∧w.grownBy w' none:=by
 obtain ⟨A,c,rfl,hc,hm,hI⟩:=ZG h;obtain ⟨⟨wp1,wp2⟩,wl⟩:=wp;unfold maxLen at hm;have HI:=zH (hI.grow (gbA (gbR w none) (.cells #[.int .i64 k.p,.slice A k.al.length c] 34)));have HK:Hid (keysB k=(elemsB k.p k.al&&inQ k.al.length 1 5)):=rfl;generalize k.al=al at *;generalize k.p=p at *;generalize hn:al.length=n at *;clear h hI hn
 cases h1:elemsB p al <;> cases h2:inQ (n:Int) 1 5
 all_goals
  rw [h1,h2] at HK
  go_enter Tryz.func112,Tryz.ntmps112
  go_wp2_with (first | (go_at_call 111;refine (Xg n 1 5 _).mono ?_;rintro e w1 ⟨rfl,rfl⟩;rw [h2]) | (go_at_call 52;refine (Zp p A n c al _ (by omega) (by omega) HI.out (by omega)).mono ?_;rintro e w1 ⟨rfl,rfl⟩;rw [h1]))
  go_ret;exact ⟨retB (by rw [HK.out];rfl),gbA (gbR _ _) _⟩
set_option maxHeartbeats 1000000 in
theorem ZY (k:KM) (a:AuM) (v u:Value) (w:World) (h:AggR w (ckeys k) v) (ha:AggR w (cauth a) u) (wp:kwf k) (wa:awf a) :
  Calls Tryz.prog 128 #[v,u] w fun e w'=>e=.returned (.bool (formB k a))∧w.grownBy w' none:=by
 obtain ⟨A,c,rfl,hc,hm,hI⟩:=ZG h;obtain ⟨B,d,C,f,rfl,_,_,_,_,hS,hM⟩:=ZO ha;obtain ⟨wa1,wa2⟩:=wa;have hp:=wp.1;obtain ⟨wp1,wp2⟩:=hp;have G0:=zH (gbA (gbA (gbR w none) (.cells #[.int .i64 k.p,.slice A k.al.length c] 34)) (.cells #[.slice B a.sh.length d,.slice C a.mc.length f] 80));have HK:=zH (AggR.grow h G0.out);have HS:=zH (hS.grow G0.out);have HM:=zH (hM.grow G0.out);have B0:=zH ((Blk.new w 34 #[.int .i64 k.p,.slice A k.al.length c]).grow (gbA (gbR _ _) (.cells #[.slice B a.sh.length d,.slice C a.mc.length f] 80)));have B1:=zH (Blk.new' (w.alloc (.cells #[.int .i64 k.p,.slice A k.al.length c] 34)) 80 #[.slice B a.sh.length d,.slice C a.mc.length f] (w.heap.size+1) (by simp));have WP:=zH wp;have HF:Hid (formB k a=(keysB k&&(((a.sh.length:Int) == (k.al.length:Int))&&((a.mc.length:Int) == (k.al.length:Int))&&elemsB k.p a.sh&&elemsB k.p a.mc))):=rfl;clear h ha hI hS hM wp
 go_enter Tryz.func128,Tryz.ntmps128
 go_wp2_with fail;refine (YP k _ _ HK.out WP.out).mono ?_;rintro e w1 ⟨rfl,g1⟩;have S1:=zH (HS.out.grow g1);have M1:=zH (HM.out.grow g1);have c0:=(B0.out.grow g1).cell 0;have c1:=(B0.out.grow g1).cell 1;have d0:=(B1.out.grow g1).cell 0;have d1:=(B1.out.grow g1).cell 1;simp at c0 c1 d0 d1;have G1:=zH (gbT G0.out g1);clear g1 HS HM HK B0 B1
 cases b0:keysB k
 ·rw [b0] at HF
  go_wp2_with fail;go_ret;exact ⟨retB (by rw [HF.out];rfl),G1.out⟩
 cases b1:((a.sh.length:Int) == (k.al.length:Int))
 ·rw [b0,b1] at HF
  go_wp2_with fail;go_ret;exact ⟨retB (by rw [HF.out];rfl),G1.out⟩
 cases b2:((a.mc.length:Int) == (k.al.length:Int))
 ·rw [b0,b1,b2] at HF
  go_wp2_with fail;go_ret;exact ⟨retB (by rw [HF.out];rfl),G1.out⟩
 go_wp2_with fail;refine (ZQ k.p B a.sh.length d a.sh _ (by omega) S1.out (by omega)).mono ?_;rintro e w2 ⟨rfl,rfl⟩
 cases b3:elemsB k.p a.sh
 ·rw [b0,b1,b2,b3] at HF
  go_wp2_with fail;go_ret;exact ⟨retB (by rw [HF.out];rfl),G1.out⟩
 go_wp2_with fail;refine (ZQ k.p C a.mc.length f a.mc _ (by omega) M1.out (by omega)).mono ?_;rintro e w2 ⟨rfl,rfl⟩;rw [b0,b1,b2,b3] at HF;go_wp2_with fail;go_ret;exact ⟨retB (by rw [HF.out];rfl),G1.out⟩
abbrev cauths (xs:List AuM):CS:=lst 80 2 cauth xs
theorem Yx {w:World} {xs:List AuM} {A:Option Addr} {n c:Nat} (h:(cauths xs).rd w (.slice A n c)) {k:Nat} (hk:k<n) :
  ∃(b o:Nat) (x:AuM) (B:Option Addr) (d:Nat) (C:Option Addr) (f:Nat),A=some ⟨b,o,none⟩∧b<w.heap.size∧xs[k]?=some x∧w.cell? ⟨b,o+k*2,none⟩=some (.slice B x.sh.length d)∧w.cell? ⟨b,o+k*2+1,none⟩=some (.slice C x.mc.length f)∧AggR w (cauth x) (.agg #[.slice B x.sh.length d,.slice C x.mc.length f]):=by
 obtain ⟨b,o,x,rfl,hb,hx,hc⟩:=lst_at (s:=2) (fun _=>rfl) (by omega) h hk;obtain ⟨u0,q0,r0⟩:=hc 0 (cints x.sh) rfl;obtain ⟨u1,q1,r1⟩:=hc 1 (cints x.mc) rfl;obtain ⟨B,d,rfl,k1,k2,k3⟩:=Zx r0;obtain ⟨C,f,rfl,k4,k5,k6⟩:=Zx r1;exact ⟨b,o,x,B,d,C,f,rfl,hb,hx,by simpa using q0,by rw [Nat.add_assoc];exact q1,VM r0 r1⟩
set_option maxHeartbeats 1000000 in
theorem YR (k:KM) (xs:List AuM) (v:Value) (A:Option Addr) (n c:Nat) (w:World) (h:AggR w (ckeys k) v) (ha:(cauths xs).rd w (.slice A n c)) (wp:kwf k) (wa:∀a∈xs,awf a) (hn:n≤1048576) :
  Calls Tryz.prog 132 #[v,.slice A n c] w fun e w'=>e=.returned (.bool (xs.all (formA k)&&keysB k))∧w.grownBy w' none:=by
 obtain ⟨E,ec,rfl,hc,hm,hI⟩:=ZG h;have hp:=wp.1;obtain ⟨wp1,wp2⟩:=hp;have hl:=(lst_len (s:=2) (fun _=>rfl) (by omega) ha).1;have HL:=zH hl;have G0:=zH (gbA (gbR w none) (.cells #[.int .i64 k.p,.slice E k.al.length ec] 34));have HK:=zH (AggR.grow h G0.out);have HA:=zH (CS.grow _ ha G0.out);have B0:=zH (Blk.new w 34 #[.int .i64 k.p,.slice E k.al.length ec]);have WP:=zH wp;have WA:=zH wa
 have HNO:Hid (∀j x,xs[j]?=some x→formA k x=false→(xs.all (formA k)&&keysB k)=false):=zH (fun j x hx hf=>by
  rw [Bool.and_eq_false_iff]
  left
  rw [List.all_eq_false]
  exact ⟨x,List.mem_of_getElem? hx,by rw [hf];decide⟩)
 clear h ha hI wp wa hl
 go_enter Tryz.func132,Tryz.ntmps132
 go_wp2_with fail
 go_loopw [9] (fun i wr=>∃j:Nat,j≤n∧i=.int .i64 j∧Hid (∀q x,q<j→xs[q]?=some x→formA k x=true)∧Hid (Blk wr w.heap.size 34 #[.int .i64 k.p,.slice E k.al.length ec])∧Hid ((w.alloc (.cells #[.int .i64 k.p,.slice E k.al.length ec] 34)).grownBy wr none)) (fun i _=>n - (intOf i).toNat)
 case atStart=>exact ⟨0,Nat.zero_le _,rfl,zH (fun q x hq=>by omega),B0.out,zH (gbR _ _)⟩
 case round =>
  clear B0;obtain ⟨j,hj,rfl,hOk,hB,hG⟩:=hrel;have c0:=hB.out.cell 0;have c1:=hB.out.cell 1;simp at c0 c1;have c0':=fun o=>kA c0 o;have c1':=fun o=>kA c1 o
  by_cases hlt:j<n
  ·obtain ⟨b,o,x,B,d,C,f,rfl,hb,hx,q0,q1,hX⟩:=Yx (CS.grow _ HA.out hG.out) hlt
   have i1:(j:Int)<(n:Int):=by omega
   obtain ⟨wx1,wx2⟩:=WA.out x (List.mem_of_getElem? hx);obtain ⟨B',d',C',f',ev,_,_,_,_,hS,hM⟩:=ZO hX;injection ev with ev;have ev:=Array.toList_inj.2 ev;injection ev with e1 ev;injection ev with e2 _;injection e1 with e1 _ e3;injection e2 with e2 _ e4;subst e1;subst e3;subst e2;subst e4;have S1:=zH (hS.grow (gbA (gbR wr none) (.cells #[.slice B x.sh.length d,.slice C x.mc.length f] 80)));have M1:=zH (hM.grow (gbA (gbR wr none) (.cells #[.slice B x.sh.length d,.slice C x.mc.length f] 80)));have HX:=zH hx;have HFA:Hid (formA k x=(((x.sh.length:Int) == (k.al.length:Int))&&((x.mc.length:Int) == (k.al.length:Int))&&elemsB k.p x.sh&&elemsB k.p x.mc)):=rfl;have NO:=zH (HNO.out j x hx);have G1:=zH (gbT G0.out (gbA hG.out (.cells #[.slice B x.sh.length d,.slice C x.mc.length f] 80)));have G2:=zH (gbA hG.out (.cells #[.slice B x.sh.length d,.slice C x.mc.length f] 80));have B2:=zH (hB.out.grow (gbA (gbR _ none) (.cells #[.slice B x.sh.length d,.slice C x.mc.length f] 80)));clear hX hS hM hx HA
   cases b1:((x.sh.length:Int) == (k.al.length:Int))
   ·rw [b1] at HFA
    have n1:((x.sh.length:Int) != (k.al.length:Int))=true:=by rw [bne,b1];rfl
    clear b1;go_wp2_with fail;go_ret;exact ⟨retB (by rw [NO.out (by rw [HFA.out];rfl)]),G1.out⟩
   have n1:((x.sh.length:Int) != (k.al.length:Int))=false:=by rw [bne,b1];rfl
   cases b2:((x.mc.length:Int) == (k.al.length:Int))
   ·rw [b1,b2] at HFA
    have n2:((x.mc.length:Int) != (k.al.length:Int))=true:=by rw [bne,b2];rfl
    clear b1 b2;go_wp2_with fail;go_ret;exact ⟨retB (by rw [NO.out (by rw [HFA.out];rfl)]),G1.out⟩
   have n2:((x.mc.length:Int) != (k.al.length:Int))=false:=by rw [bne,b2];rfl
   rw [b1,b2] at HFA;clear b1 b2;go_wp2_with fail;refine (Zp k.p B x.sh.length d x.sh _ (by omega) (by omega) S1.out (by omega)).mono ?_;rintro e w2 ⟨rfl,rfl⟩
   cases b3:elemsB k.p x.sh
   ·rw [b3] at HFA
    go_wp2_with fail;go_ret;exact ⟨retB (by rw [NO.out (by rw [HFA.out];rfl)]),G1.out⟩
   go_wp2_with fail;refine (Zp k.p C x.mc.length f x.mc _ (by omega) (by omega) M1.out (by omega)).mono ?_;rintro e w2 ⟨rfl,rfl⟩
   cases b4:elemsB k.p x.mc
   ·rw [b3,b4] at HFA
    go_wp2_with fail;go_ret;exact ⟨retB (by rw [NO.out (by rw [HFA.out];rfl)]),G1.out⟩
   rw [b3,b4] at HFA
   have OK2:Hid (∀q y,q<j+1→xs[q]?=some y→formA k y=true):=zH (fun q y hq hy=>by
    rcases Nat.lt_succ_iff_lt_or_eq.1 hq with hq' | rfl
    ·exact hOk.out q y hq' hy
    ·have:=HX.out
     rw [hy] at this;injection this with this
     rw [this,HFA.out];rfl)
   go_wp2_with fail
   go_roundw
   case rel=>exact ⟨j+1,by omega,by go_num,OK2,B2,G2⟩
   case measure=>simp [intOf];omega
  ·have hjn:j=n:=by omega
   subst hjn
   have HY:Hid ((xs.all (formA k)&&keysB k)=keysB k):=zH (by
    have:xs.all (formA k)=true:=by
     rw [List.all_eq_true];intro x hx;obtain ⟨q,hq⟩:=List.mem_iff_getElem?.1 hx;exact hOk.out q x (by have:=(List.getElem?_eq_some_iff.1 hq).1;have:=HL.out;omega) hq
    rw [this];rfl)
   have HK2:=zH (AggR.grow HK.out hG.out);have GZ:=zH (gbT G0.out hG.out);clear hOk hB hG HA HK;go_wp2_with fail;refine (YQ k _ _ HK2.out WP.out).mono ?_;rintro e w2 ⟨rfl,g2⟩;have G2:=zH (gbT GZ.out g2);clear g2;go_wp2_with fail;go_ret;exact ⟨retB (by rw [HY.out]),G2.out⟩
structure AM where
 p:Int
 st:List (Int × Int × Int)
 outs:List Int
abbrev carith (m:AM):List CS:=[ci m.p,csteps m.st,cints m.outs]
def AM.sz (m:AM):Nat:=m.st.length+m.outs.length
def AM.cnt (k:Int) (m:AM):Int:=k+3*m.st.length+m.outs.length
def AM.mkd (k:Int) (m:AM):AM:={ m with st:=mk3 (k) m.st.length,outs:=marks (k+3*m.st.length) m.outs.length }
def AM.wf (m:AM):Prop:=i64w m.p∧(∀z∈m.st,w3 z)∧(∀z∈m.outs,i64w z)
theorem stArith:St Tryz.prog 38 3:=⟨⟨_,Tryz.underlying38,rfl⟩,by kernel_rfl⟩
theorem Zt {w:World} {m:AM} {v:Value} (h:AggR w (carith m) v):∃u1 u2,v=.agg #[(.int .i64 m.p),u1,u2]∧(csteps m.st).rd w u1∧(cints m.outs).rd w u2:=by
 obtain ⟨vs,rfl,h⟩:=h;obtain ⟨u0,vs0,rfl,h0,h⟩:=RdAll.head h;obtain ⟨u1,vs1,rfl,h1,h⟩:=RdAll.head h;obtain ⟨u2,vs2,rfl,h2,h⟩:=RdAll.head h;obtain rfl:=RdAll.none h;obtain rfl:=ci_rd h0;exact ⟨u1,u2,rfl,h1,h2⟩
theorem carith_mk {w:World} {m:AM} {u1 u2:Value} (h1:(csteps m.st).rd w u1) (h2:(cints m.outs).rd w u2):AggR w (carith m) (.agg #[(.int .i64 m.p),u1,u2]):=⟨_,rfl,(RdAll.cons (ci_mk _ _) (RdAll.cons h1 (RdAll.cons h2 (RdAll.nil _))))⟩
theorem YH {w:World} {m:AM} {F:List Nat} {v:Value} (h:AggO w (carith m) F v):∃(A1:Option Addr) (n1 s1:Nat) (A2:Option Addr) (n2 s2:Nat),v=.agg #[(.int .i64 m.p),(.slice A1 n1 s1),(.slice A2 n2 s2)]:=by
 obtain ⟨vs,Fs,rfl,h,rfl⟩:=h;obtain ⟨u0,vs0,F0,Fs0,rfl,rfl,h0,h,d0⟩:=OwnAll.head h;obtain ⟨u1,vs1,F1,Fs1,rfl,rfl,h1,h,d1⟩:=OwnAll.head h;obtain ⟨u2,vs2,F2,Fs2,rfl,rfl,h2,h,d2⟩:=OwnAll.head h;obtain ⟨rfl,rfl⟩:=OwnAll.none h;obtain ⟨rfl,rfl,_⟩:=h0;obtain ⟨A1,n1,s1,rfl⟩:=ZV h1;obtain ⟨A2,n2,s2,rfl⟩:=ZV h2;exact ⟨A1,n1,s1,A2,n2,s2,rfl⟩
theorem Qy {w:World} {m:AM} {F:List Nat} {v:Value} (h:AggO w (carith m) F v):∃u1 u2 F1 F2,v=.agg #[(.int .i64 m.p),u1,u2]∧F=[[],F1,F2].flatten∧(csteps m.st).own w F1 u1∧(cints m.outs).own w F2 u2∧(∀g∈F1,g∉F2):=by
 obtain ⟨vs,Fs,rfl,h,rfl⟩:=h;obtain ⟨u0,vs0,F0,Fs0,rfl,rfl,h0,h,d0⟩:=OwnAll.head h;obtain ⟨u1,vs1,F1,Fs1,rfl,rfl,h1,h,d1⟩:=OwnAll.head h;obtain ⟨u2,vs2,F2,Fs2,rfl,rfl,h2,h,d2⟩:=OwnAll.head h;obtain ⟨rfl,rfl⟩:=OwnAll.none h;obtain ⟨rfl,rfl,_⟩:=h0;exact ⟨u1,u2,F1,F2,rfl,rfl,h1,h2,fun g hg hg'=>d1 g hg (by simp [hg'])⟩
theorem carith_omk {w:World} {m:AM} {u1 u2:Value} {F1 F2:List Nat} (h1:(csteps m.st).own w F1 u1) (h2:(cints m.outs).own w F2 u2) (d12:∀g∈F1,g∉F2):AggO w (carith m) [[],F1,F2].flatten (.agg #[(.int .i64 m.p),u1,u2]):=⟨_,_,rfl,(OwnAll.cons (Qu _ _) (OwnAll.cons h1 (OwnAll.cons h2 (OwnAll.nil _) (fun g hg=>by simp)) (fun g hg=>by simp [d12 g hg])) (by simp)),rfl⟩
set_option maxHeartbeats 1000000 in
theorem UH (m:AM) (v:Value) (w:World) (h:AggR w (carith m) v) (hn:m.sz≤1048576) :
  Calls Tryz.prog 11 #[v] w fun e w'=>∃u F,e=.returned u∧AggO w' (carith m) F u∧(∀g∈F,w.heap.size≤g)∧w.grownBy w' none:=by
 obtain ⟨u1,u2,rfl,h1,h2⟩:=Zt h;have HN:=zH hn;have H1:=zH h1;have H2:=zH h2;clear h hn h1 h2
 go_enter Tryz.func11,Tryz.ntmps11
 go_wp2_with fail;obtain ⟨x0,e0⟩:∃x:World,x=((w.alloc (.cells #[(.int .i64 m.p),u1,u2] 27)).alloc (.cells #[(.int .i64 0),(.slice none 0 0),(.slice none 0 0)] 38)).alloc (.cells #[(.int .i64 m.p),(.slice none 0 0),(.slice none 0 0)] 38):=⟨_,rfl⟩;have A1:Hid (Blk x0 w.heap.size 27 #[(.int .i64 m.p),u1,u2]):=by rw [e0];exact ((Blk.new w _ _).grow (gbA (gbR _ _) _)).grow (gbA (gbR _ _) _)
 have A2:Hid (Blk x0 (w.heap.size+1) 38 #[(.int .i64 0),(.slice none 0 0),(.slice none 0 0)]):=by rw [e0];exact (Blk.new' _ _ _ _ (by simp)).grow (gbA (gbR _ _) _)
 have A3:Hid (Blk x0 (w.heap.size+1+1) 38 #[(.int .i64 m.p),(.slice none 0 0),(.slice none 0 0)]):=by rw [e0];exact Blk.new' _ _ _ _ (by simp)
 have G0:Hid (w.grownBy x0 none):=by rw [e0];exact gbA (gbA (gbA (gbR _ _) _) _) _
 have Z0:x0.heap.size=w.heap.size+1+1+1:=by rw [e0];simp
 try rw [← e0]
 clear e0;have R:=CS.grow _ H1.out G0.out;refine (toStepS_k m.st u1 _ R (by have:=HN.out;unfold AM.sz at this;omega)).mono ?_;rintro e x1 ⟨v1,F1,rfl,o1,l1,g1⟩;obtain ⟨B1,n1,s1,rfl⟩:=ZV o1;have Z1:=g1.size
 try simp at Z1
 have L1:Hid (∀g∈F1,x0.heap.size≤g):=fun g hg=>by have:=l1 g hg;simpa using this
 have O1:=zH o1;have Q1:Hid (∀g∈F1,g<x1.heap.size):=fun g hg=>CS.lt _ o1 g hg;have E1:=zH (Blk.grow (A1.out) g1);have E2:=zH (Blk.grow (A2.out) g1);have E3:=zH (Blk.grow (A3.out) g1);have G1:=zH (gbT (G0.out) g1);clear R l1 g1 o1 A1 A2 A3 G0;have A1:=E1;have A2:=E2;have A3:=E3;clear E1 E2 E3;have K1:=zH ((A1.out).far (p:=⟨w.heap.size+1+1,1,none⟩) (by first | (simp;done) | (simp;omega)) (.slice B1 n1 s1));have K2:=zH ((A2.out).far (p:=⟨w.heap.size+1+1,1,none⟩) (by first | (simp;done) | (simp;omega)) (.slice B1 n1 s1));have K3:=zH ((A3.out).set_ 1 (.slice B1 n1 s1));have KG:=zH (gbS (G1.out) (p:=⟨w.heap.size+1+1,1,none⟩) (by simp;omega) (.slice B1 n1 s1));have P1:=zH (Xk _ (O1.out) ⟨w.heap.size+1+1,1,none⟩ (fun hg=>by have:=L1.out _ hg;simp at this;omega) (.slice B1 n1 s1));clear O1;have c0:=A1.out.cell 0;have c1:=A1.out.cell 1;have c2:=A1.out.cell 2;have d0:=A3.out.cell 0;have f0:=A3.out.frozen 0;have d1:=A3.out.cell 1;have f1:=A3.out.frozen 1;have d2:=A3.out.cell 2;have f2:=A3.out.frozen 2;simp at c0 c1 c2 d0 d1 d2;clear A1 A2 A3 G1;go_wp2_with fail;have R:=CS.grow _ H2.out KG.out;refine (XL m.outs u2 _ R (by have:=HN.out;unfold AM.sz at this;omega)).mono ?_;rintro e x2 ⟨v2,F2,rfl,o2,l2,g2⟩;obtain ⟨B2,n2,s2,rfl⟩:=ZV o2;have Z2:=g2.size
 try simp at Z2
 have L2:Hid (∀g∈F2,x1.heap.size≤g):=fun g hg=>by have:=l2 g hg;simpa using this
 have O2:=zH o2;have Q2:Hid (∀g∈F2,g<x2.heap.size):=fun g hg=>CS.lt _ o2 g hg;have N1:=zH (Zi _ P1.out g2);clear P1;have O1:=N1;clear N1;have E1:=zH (Blk.grow (K1.out) g2);have E2:=zH (Blk.grow (K2.out) g2);have E3:=zH (Blk.grow (K3.out) g2);have G2:=zH (gbT (KG.out) g2);clear R l2 g2 o2 K1 K2 K3 KG c0 c1 c2 d0 d1 d2 f0 f1 f2;have A1:=E1;have A2:=E2;have A3:=E3;clear E1 E2 E3;have K2:=zH (((((A2.out).far (p:=⟨w.heap.size+1+1,2,none⟩) (by first | (simp;done) | (simp;omega)) (.slice B2 n2 s2)).set_ 0 (.int .i64 m.p)).set_ 1 (.slice B1 n1 s1)).set_ 2 (.slice B2 n2 s2));have KG:=zH (gbS (gbS (gbS (gbS (G2.out) (p:=⟨w.heap.size+1+1,2,none⟩) (by simp;omega) (.slice B2 n2 s2)) (p:=⟨w.heap.size+1,0,none⟩) (by simp) (.int .i64 m.p)) (p:=⟨w.heap.size+1,1,none⟩) (by simp) (.slice B1 n1 s1)) (p:=⟨w.heap.size+1,2,none⟩) (by simp) (.slice B2 n2 s2));have P1:=zH (Xk _ (Xk _ (Xk _ (Xk _ (O1.out) ⟨w.heap.size+1+1,2,none⟩ (fun hg=>by have:=L1.out _ hg;simp at this;omega) (.slice B2 n2 s2)) ⟨w.heap.size+1,0,none⟩ (fun hg=>by have:=L1.out _ hg;simp at this;omega) (.int .i64 m.p)) ⟨w.heap.size+1,1,none⟩ (fun hg=>by have:=L1.out _ hg;simp at this;omega) (.slice B1 n1 s1)) ⟨w.heap.size+1,2,none⟩ (fun hg=>by have:=L1.out _ hg;simp at this;omega) (.slice B2 n2 s2));have P2:=zH (Xk _ (Xk _ (Xk _ (Xk _ (O2.out) ⟨w.heap.size+1+1,2,none⟩ (fun hg=>by have:=L2.out _ hg;simp at this;omega) (.slice B2 n2 s2)) ⟨w.heap.size+1,0,none⟩ (fun hg=>by have:=L2.out _ hg;simp at this;omega) (.int .i64 m.p)) ⟨w.heap.size+1,1,none⟩ (fun hg=>by have:=L2.out _ hg;simp at this;omega) (.slice B1 n1 s1)) ⟨w.heap.size+1,2,none⟩ (fun hg=>by have:=L2.out _ hg;simp at this;omega) (.slice B2 n2 s2));have D12:Hid (∀g∈F1,g∉F2):=fun g h1 h2=>by have h3:=L2.out g h2;have h4:=Q1.out g h1;omega
 have d:=A3.out;have d0:=A3.out.cell 0;have f0:=A3.out.frozen 0;have b0:=A2.out.cell 0;have t0:=A2.out.frozen 0;have d1:=A3.out.cell 1;have f1:=A3.out.frozen 1;have b1:=A2.out.cell 1;have t1:=A2.out.frozen 1;have d2:=A3.out.cell 2;have f2:=A3.out.frozen 2;have b2:=A2.out.cell 2;have t2:=A2.out.frozen 2;clear d;simp at d0 d1 d2 b0 b1 b2;clear A1 A2 A3 G2;go_wp2_with fail;refine YJ Tryz.results11 (by rfl) stArith (cs:=#[(.int .i64 m.p),(.slice B1 n1 s1),(.slice B2 n2 s2)]) ?B (by rfl) (by rfl) ?_
 case B=>exact K2.out
 refine ⟨_,_,rfl,carith_omk P1.out P2.out D12.out,fun g hg => ?_,KG.out⟩;simp at hg
 rcases hg with hg | hg
 ·have:=L1.out g hg;omega
 ·have:=L2.out g hg;omega
set_option maxHeartbeats 1000000 in
theorem eqArith_k (m:AM) (v u:Value) (w:World) (h:AggR w (carith m) v) (k:AggR w (carith m) u) (hn:m.sz≤1048576) :
  Calls Tryz.prog 17 #[v,u] w fun e w'=>e=.returned (.bool true)∧w.grownBy w' none:=by
 obtain ⟨u1,u2,rfl,h1,h2⟩:=Zt h;obtain ⟨t1,t2,rfl,k1,k2⟩:=Zt k;have HN:=zH hn;have H1:=zH h1;have K1:=zH k1;have H2:=zH h2;have K2:=zH k2;clear h k hn h1 h2 k1 k2
 go_enter Tryz.func17,Tryz.ntmps17
 have A1:Hid (Blk ((w.alloc (.cells #[(.int .i64 m.p),u1,u2] 38)).alloc (.cells #[(.int .i64 m.p),t1,t2] 38)) w.heap.size 38 #[(.int .i64 m.p),u1,u2]):=(Blk.new w _ _).grow (gbA (gbR _ _) _);have A2:Hid (Blk ((w.alloc (.cells #[(.int .i64 m.p),u1,u2] 38)).alloc (.cells #[(.int .i64 m.p),t1,t2] 38)) (w.heap.size+1) 38 #[(.int .i64 m.p),t1,t2]):=Blk.new' _ _ _ _ (by simp);have G0:Hid (w.grownBy ((w.alloc (.cells #[(.int .i64 m.p),u1,u2] 38)).alloc (.cells #[(.int .i64 m.p),t1,t2] 38)) none):=gbA (gbA (gbR _ _) _) _;go_wp2_with fail;refine (eqStepS_k m.st u1 t1 _ (CS.grow _ H1.out G0.out) (CS.grow _ K1.out G0.out) (by have:=HN.out;unfold AM.sz at this;omega)).mono ?_;rintro e x1 ⟨rfl,g1⟩;have G1:=zH (gbT G0.out g1);have E1:=zH (Blk.grow A1.out g1);have E2:=zH (Blk.grow A2.out g1);clear A1 A2 g1;have A1:=E1;have A2:=E2;clear E1 E2;have c2:=A1.out.cell 2;have d2:=A2.out.cell 2;simp at c2 d2;go_wp2_with fail;clear c2 d2;refine (VF m.outs u2 t2 _ (CS.grow _ H2.out G1.out) (CS.grow _ K2.out G1.out) (by have:=HN.out;unfold AM.sz at this;omega)).mono ?_;rintro e x2 ⟨rfl,g2⟩;have G2:=zH (gbT G1.out g2);have E1:=zH (Blk.grow A1.out g2);have E2:=zH (Blk.grow A2.out g2);clear A1 A2 g2;have A1:=E1;have A2:=E2;clear E1 E2;go_wp2_with fail;go_ret;exact ⟨rfl,G2.out⟩
set_option maxHeartbeats 1000000 in
theorem szArith_k (m:AM) (v:Value) (l:Nat) (w:World) (h:AggR w (carith m) v) (hl:l≤1048576) :
  Calls Tryz.prog 8 #[v,.int .i64 l] w fun e w'=>e=.returned (.int .i64 (szO l m.sz))∧w.grownBy w' none:=by
 obtain ⟨u1,u2,rfl,h1,h2⟩:=Zt h;have H1:=zH h1;have H2:=zH h2;clear h h1 h2;have A0:=zH (Blk.new w 27 #[(.int .i64 m.p),u1,u2]);have G0:=zH (gbA (gbR w none) (.cells #[(.int .i64 m.p),u1,u2] 27))
 by_cases b0:m.st.length≤l
 ·have C0:=zH (Qa b0)
  have Y0:=zH b0;clear b0
  by_cases b1:m.outs.length≤l - m.st.length
  ·have C1:=zH (Qa b1)
   have Y1:=zH b1;clear b1
   go_enter Tryz.func8,Tryz.ntmps8
   go_wp2_with fail;refine (Kw m.st u1 (l) _ (CS.grow _ H1.out G0.out) (by omega)).mono ?_;rintro e x1 ⟨rfl,g1⟩;rw [C0.out];have G1:=zH (gbT G0.out g1);have A1:=zH (Blk.grow A0.out g1);have c2:=A1.out.cell 2;simp at c2;have s0:¬((l - m.st.length:Nat):Int)<0:=by omega
   clear g1;go_wp2_with fail;refine (szIntS_k m.outs u2 (l - m.st.length) _ (CS.grow _ H2.out G1.out) (by omega)).mono ?_;rintro e x2 ⟨rfl,g2⟩;rw [C1.out];have G2:=zH (gbT G1.out g2);have A2:=zH (Blk.grow A1.out g2);have s1:¬((l - m.st.length - m.outs.length:Nat):Int)<0:=by omega
   clear g2;go_wp2_with fail;go_ret;exact ⟨retI (by have:=Y0.out;have:=Y1.out;rw [Qa (by unfold AM.sz;omega)];unfold AM.sz;omega),G2.out⟩
  ·have C1:=zH (Kv (Nat.lt_of_not_le b1))
   have N1:=zH b1;clear b1
   go_enter Tryz.func8,Tryz.ntmps8
   go_wp2_with fail;refine (Kw m.st u1 (l) _ (CS.grow _ H1.out G0.out) (by omega)).mono ?_;rintro e x1 ⟨rfl,g1⟩;rw [C0.out];have G1:=zH (gbT G0.out g1);have A1:=zH (Blk.grow A0.out g1);have c2:=A1.out.cell 2;simp at c2;have s0:¬((l - m.st.length:Nat):Int)<0:=by omega
   clear g1;go_wp2_with fail;refine (szIntS_k m.outs u2 (l - m.st.length) _ (CS.grow _ H2.out G1.out) (by omega)).mono ?_;rintro e x2 ⟨rfl,g2⟩;rw [C1.out];have G2:=zH (gbT G1.out g2);have A2:=zH (Blk.grow A1.out g2);clear g2;go_wp2_with fail;go_ret;exact ⟨retI (by rw [Kv];have:=N1.out;have:=Y0.out;unfold AM.sz;omega),G2.out⟩
 ·have C0:=zH (Kv (Nat.lt_of_not_le b0))
  have N0:=zH b0;clear b0
  go_enter Tryz.func8,Tryz.ntmps8
  go_wp2_with fail;refine (Kw m.st u1 (l) _ (CS.grow _ H1.out G0.out) (by omega)).mono ?_;rintro e x1 ⟨rfl,g1⟩;rw [C0.out];have G1:=zH (gbT G0.out g1);have A1:=zH (Blk.grow A0.out g1);clear g1;go_wp2_with fail;go_ret;exact ⟨retI (by rw [Kv];have:=N0.out;unfold AM.sz;omega),G1.out⟩
set_option maxHeartbeats 1000000 in
theorem markArith_k (m:AM) (v:Value) (F:List Nat) (k:Int) (w:World) (h:AggO w (carith m) F v) (hn:m.sz≤1048576) (h0:0≤k) (h1:k≤17179869184) :
  Calls Tryz.prog 19 #[v,.int .i64 k] w fun e w'=>e=.returned (.int .i64 (m.cnt k))∧AggO w' (carith (m.mkd k)) F v∧Chg (fun g=>g∈F) w w':=by
 obtain ⟨u1,u2,F1,F2,rfl,rfl,h1,h2,d12⟩:=Qy h;have q1:m.st.length≤1048576:=by unfold AM.sz at hn;omega
 have q2:m.outs.length≤1048576:=by unfold AM.sz at hn;omega
 have V1:Hid (∀g∈F1,g<w.heap.size):=CS.lt _ h1;have V2:Hid (∀g∈F2,g<w.heap.size):=CS.lt _ h2;have D12:=zH d12;have A0:=zH (Blk.new w 38 #[(.int .i64 m.p),u1,u2]);have G0:=zH (gbA (gbR w none) (.cells #[(.int .i64 m.p),u1,u2] 38));have P1:=zH (Zi _ h1 G0.out);have P2:=zH (Zi _ h2 G0.out);have M0:Hid (Chg (fun g=>g∈[[],F1,F2].flatten) (w.alloc (.cells #[(.int .i64 m.p),u1,u2] 38)) (w.alloc (.cells #[(.int .i64 m.p),u1,u2] 38))):=Chg.refl _ _;clear h hn h1 h2 d12
 go_enter Tryz.func19,Tryz.ntmps19
 go_wp2_with fail;refine (markStepS_k m.st u1 F1 (k) _ P1.out (by omega) (by omega) (by omega)).mono ?_;rintro e x1 ⟨rfl,o1,g1⟩;have N1:=zH o1;have E:=zH (Yv _ P2.out g1 (fun g hg hg'=>D12.out g hg' hg));clear P2;have P2:=E;clear E;clear P1;have P1:=N1;clear N1;have A1:=zH (YW A0.out g1 (fun hg=>by have:=V1.out _ hg;omega));have M1:=zH (M0.out.trans (g1.mono (fun g hg=>by simp [hg])));clear o1 g1 A0 M0;have c2:=A1.out.cell 2;simp at c2;go_wp2_with fail;refine (VG m.outs u2 F2 (k+3*m.st.length) _ P2.out (by omega) (by omega) (by omega)).mono ?_;rintro e x2 ⟨rfl,o2,g2⟩;have N2:=zH o2;have E:=zH (Yv _ P1.out g2 (fun g hg hg'=>D12.out g hg hg'));clear P1;have P1:=E;clear E;clear P2;have P2:=N2;clear N2;have A2:=zH (YW A1.out g2 (fun hg=>by have:=V2.out _ hg;omega));have M2:=zH (M1.out.trans (g2.mono (fun g hg=>by simp [hg])));clear o2 g2 A1 M1;go_wp2_with fail;go_ret;have hM:=M2.out;refine ⟨rfl,carith_omk (m:=m.mkd k) P1.out P2.out D12.out,⟨hM.os,hM.tape,hM.output,Nat.le_trans G0.out.size hM.size,fun i hi hs=>(hM.block i (Nat.lt_of_lt_of_le hi G0.out.size) hs).trans (G0.out.block i hi (by simp))⟩⟩
abbrev Stp:=Int × Int × Int
def muls (st:List Stp) (k:Nat):Nat:=(st.take k).countP (·.1 == 4)
theorem muls_zero (st:List Stp):muls st 0=0:=by simp [muls]
theorem muls_succ (st:List Stp) (k:Nat) (x:Stp) (h:st[k]?=some x):muls st (k+1)=muls st k+if x.1 == 4 then 1 else 0:=by
 unfold muls;obtain ⟨hk,rfl⟩:=List.getElem?_eq_some_iff.1 h;rw [List.take_succ_eq_append_getElem hk,List.countP_append,List.countP_singleton]
theorem muls_le (st:List Stp) (k:Nat):muls st k≤k:=Nat.le_trans List.countP_le_length (by rw [List.length_take];omega)
theorem YI {w:World} {A:Option Addr} {n:Nat} {st:List Stp} (h:FL c3 3 w A n st) {k:Nat} (hk:k<n) :
  ∃(b o:Nat) (x y z:Int),A=some ⟨b,o,none⟩∧b<w.heap.size∧st[k]?=some (x,y,z)∧w.cell? ⟨b,o+k*3,none⟩=some (.int .i64 x)∧w.cell? ⟨b,o+k*3+1,none⟩=some (.int .i64 y)∧w.cell? ⟨b,o+k*3+2,none⟩=some (.int .i64 z):=by
 obtain ⟨b,o,t,rfl,hb,hx,hc⟩:=h.cell Uy hk (by omega);obtain ⟨x,y,z⟩:=t;have c0:=hc 0 (by omega);have c1:=hc 1 (by omega);have c2:=hc 2 (by omega);simp only [c3,Nat.add_zero,← Nat.add_assoc,List.getElem?_cons_zero,List.getElem?_cons_succ] at c0 c1 c2;exact ⟨b,o,x,y,z,rfl,hb,hx,c0,c1,c2⟩
end Go.Proofs.YthaadgdeadbhkaaGreat
