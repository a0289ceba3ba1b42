/-
 Words and tapes: what they compute.
-/
import Derived.Test.YthaadgdeadbhkaaGreatMgFnExactCountOutcomes4
open Go.RowKit
set_option linter.unusedVariables false
set_option linter.unusedSimpArgs false
namespace Go.Proofs.YthaadgdeadbhkaaGreat
attribute [local simp] depsC dstAt kAt bindE List.filter_cons Zz Zq Zr Zs ZA ZW puts dsts Act.put
def mixS (x:Nat):Nat:=((x ^^^ x / 65536)*73244475) &&& 4294967295
def mixTo (x:Nat):Nat→Nat
 | 0=>x
 | k+1=>mixS (mixTo x k)
def mixN (x:Nat):Nat:=mixTo x 2 ^^^ mixTo x 2 / 65536
def keyN (k a b:Nat):Nat:=mixN (mixN (mixN k ^^^ a) ^^^ b)
theorem mixS_lt (x:Nat):mixS x<4294967296:=by
 unfold mixS;exact Nat.lt_of_le_of_lt Nat.and_le_right (by omega)
theorem mixTo_lt {x:Nat} (h:x<4294967296):∀k,mixTo x k<4294967296
 | 0=>h
 | k+1=>mixS_lt _
theorem Vq {a b:Nat} (ha:a<4294967296) (hb:b<4294967296):a ^^^ b<4294967296:=Nat.xor_lt_two_pow (n:=32) ha hb
theorem Ue {x:Nat} (h:x<4294967296):mixN x<4294967296:=by
 have:=mixTo_lt h 2;unfold mixN;exact Vq this (by omega)
theorem Wf {k a b:Nat} (hk:k<4294967296) (ha:a<4294967296) (hb:b<4294967296):keyN k a b<4294967296:=by
 unfold keyN;exact Ue (Vq (Ue (Vq (Ue hk) ha)) hb)
theorem Ju {x:Nat} (h:x<4294967296):bits .xor .i64 (x:Int) ((x:Int) / 65536)=((x ^^^ x / 65536:Nat):Int):=by
 rw [show (x:Int) / 65536=((x / 65536:Nat):Int) by omega];exact Kk x (x / 65536) (by omega) (by omega)
theorem mix_and {y:Nat} (h:y<4294967296):bits .and .i64 ((y:Int)*73244475) 4294967295=((y*73244475 &&& 4294967295:Nat):Int):=by
 rw [show (y:Int)*73244475=((y*73244475:Nat):Int) by omega,show (4294967295:Int)=((4294967295:Nat):Int) by rfl];exact and_nat _ _ (by omega) (by omega)
set_option maxHeartbeats 400000 in
theorem Uf (x:Nat) (w:World) (hx:x<4294967296) :
  Calls Tryz.prog 150 #[.int .i64 x] w fun e w'=>e=.returned (.int .i64 (mixN x))∧w=w':=by
 go_enter Tryz.func150,Tryz.ntmps150
 have d1:decide ((x:Int)≤4294967295)=true:=by simp;omega
 go_wp2
 go_loop [0,3] (fun z i=>∃k:Nat,k≤2∧i=.int .i64 k∧z=.int .i64 (mixTo x k:Nat)) (fun _ i=>2 - (intOf i).toNat)
 case atStart=>exact ⟨0,by omega,rfl,rfl⟩
 case round =>
  obtain ⟨k,hk,rfl,rfl⟩:=hrel;have hl:=mixTo_lt hx k
  by_cases hlt:k<2
  ·have i1:(k:Int)<2:=by omega
   have HS:Hid (mixTo x (k+1)=mixS (mixTo x k)):=rfl;have hx1:=Ju hl;have hy:=Vq hl (show mixTo x k / 65536<4294967296 by omega);have hx2:=mix_and hy;unfold mixS at HS;generalize mixTo x k=z at *;generalize z ^^^ z / 65536=y at *;generalize y*73244475 &&& 4294967295=r at *;go_wp2_with fail
   go_round
   case rel=>exact ⟨k+1,by omega,by go_num,by rw [HS.out]⟩
   case measure=>simp [intOf];omega
  ·have hk2:k=2:=by omega
   subst hk2;have HS:Hid (mixN x=mixTo x 2 ^^^ mixTo x 2 / 65536):=rfl;have hx1:=Ju hl;generalize mixTo x 2=z at *;generalize z ^^^ z / 65536=y at *;go_wp2_with fail;go_ret;exact ⟨retI (by rw [HS.out]),rfl⟩
set_option maxHeartbeats 400000 in
theorem UE (k a b:Nat) (w:World) (hk:k<4294967296) (ha:a<4294967296) (hb:b<4294967296) :
  Calls Tryz.prog 95 #[.int .i64 k,.int .i64 a,.int .i64 b] w fun e w'=>e=.returned (.int .i64 (keyN k a b))∧w=w':=by
 have d1:decide ((k:Int)≤4294967295)=true:=by simp;omega
 have d2:decide ((a:Int)≤4294967295)=true:=by simp;omega
 have d3:decide ((b:Int)≤4294967295)=true:=by simp;omega
 have m1:=Ue hk;have e1:=Kk (mixN k) a (by omega) (by omega);have m2:=Ue (Vq m1 ha);have e2:=Kk (mixN (mixN k ^^^ a)) b (by omega) (by omega);have m3:=zH (Vq m2 hb);have m4:=zH (Vq m1 ha);have HK:Hid (keyN k a b=mixN (mixN (mixN k ^^^ a) ^^^ b)):=rfl;have q1:=zH (YE (z:=(k:Int)) (a:=0) (b:=4294967295) (by omega) (by omega));have q2:=zH (YE (z:=(a:Int)) (a:=0) (b:=4294967295) (by omega) (by omega));have q3:=zH (YE (z:=(b:Int)) (a:=0) (b:=4294967295) (by omega) (by omega));clear d1 d2 d3
 go_enter Tryz.func95,Tryz.ntmps95
 go_wp2_with fail;refine (Wc k _).mono ?_;rintro e w1 ⟨rfl,rfl⟩;rw [q1.out];go_wp2_with fail;refine (Wc a _).mono ?_;rintro e w1 ⟨rfl,rfl⟩;rw [q2.out];go_wp2_with fail;refine (Wc b _).mono ?_;rintro e w1 ⟨rfl,rfl⟩;rw [q3.out];go_wp2_with fail;refine (Uf k _ hk).mono ?_;rintro e w1 ⟨rfl,rfl⟩;generalize mixN k=z1 at *;go_wp2_with fail;refine (Uf (z1 ^^^ a) _ m4.out).mono ?_;rintro e w1 ⟨rfl,rfl⟩;generalize mixN (z1 ^^^ a)=z2 at *;go_wp2_with fail;refine (Uf (z2 ^^^ b) _ m3.out).mono ?_;rintro e w1 ⟨rfl,rfl⟩;go_wp2_with fail;go_ret;exact ⟨retI (by rw [HK.out]),rfl⟩
set_option maxHeartbeats 400000 in
theorem Ug (x:Nat) (w:World) (hx:x<4294967296) :
  Calls Tryz.prog 159 #[.int .i64 x] w fun e w'=>e=.returned (.int .i64 (mixN x))∧w=w':=by
 go_enter Tryz.func159,Tryz.ntmps159
 have d1:decide ((x:Int)≤4294967295)=true:=by simp;omega
 go_wp2
 go_loop [0,3] (fun z i=>∃k:Nat,k≤2∧i=.int .i64 k∧z=.int .i64 (mixTo x k:Nat)) (fun _ i=>2 - (intOf i).toNat)
 case atStart=>exact ⟨0,by omega,rfl,rfl⟩
 case round =>
  obtain ⟨k,hk,rfl,rfl⟩:=hrel;have hl:=mixTo_lt hx k
  by_cases hlt:k<2
  ·have i1:(k:Int)<2:=by omega
   have HS:Hid (mixTo x (k+1)=mixS (mixTo x k)):=rfl;have hx1:=Ju hl;have hy:=Vq hl (show mixTo x k / 65536<4294967296 by omega);have hx2:=mix_and hy;unfold mixS at HS;generalize mixTo x k=z at *;generalize z ^^^ z / 65536=y at *;generalize y*73244475 &&& 4294967295=r at *;go_wp2_with fail
   go_round
   case rel=>exact ⟨k+1,by omega,by go_num,by rw [HS.out]⟩
   case measure=>simp [intOf];omega
  ·have hk2:k=2:=by omega
   subst hk2;have HS:Hid (mixN x=mixTo x 2 ^^^ mixTo x 2 / 65536):=rfl;have hx1:=Ju hl;generalize mixTo x 2=z at *;generalize z ^^^ z / 65536=y at *;go_wp2_with fail;go_ret;exact ⟨retI (by rw [HS.out]),rfl⟩
set_option maxHeartbeats 400000 in
theorem UF (k a b:Nat) (w:World) (hk:k<4294967296) (ha:a<4294967296) (hb:b<4294967296) :
  Calls Tryz.prog 117 #[.int .i64 k,.int .i64 a,.int .i64 b] w fun e w'=>e=.returned (.int .i64 (keyN k a b))∧w=w':=by
 have d1:decide ((k:Int)≤4294967295)=true:=by simp;omega
 have d2:decide ((a:Int)≤4294967295)=true:=by simp;omega
 have d3:decide ((b:Int)≤4294967295)=true:=by simp;omega
 have m1:=Ue hk;have e1:=Kk (mixN k) a (by omega) (by omega);have m2:=Ue (Vq m1 ha);have e2:=Kk (mixN (mixN k ^^^ a)) b (by omega) (by omega);have m3:=zH (Vq m2 hb);have m4:=zH (Vq m1 ha);have HK:Hid (keyN k a b=mixN (mixN (mixN k ^^^ a) ^^^ b)):=rfl;have q1:=zH (YE (z:=(k:Int)) (a:=0) (b:=4294967295) (by omega) (by omega));have q2:=zH (YE (z:=(a:Int)) (a:=0) (b:=4294967295) (by omega) (by omega));have q3:=zH (YE (z:=(b:Int)) (a:=0) (b:=4294967295) (by omega) (by omega));clear d1 d2 d3
 go_enter Tryz.func117,Tryz.ntmps117
 go_wp2_with fail;refine (Wd k _).mono ?_;rintro e w1 ⟨rfl,rfl⟩;rw [q1.out];go_wp2_with fail;refine (Wd a _).mono ?_;rintro e w1 ⟨rfl,rfl⟩;rw [q2.out];go_wp2_with fail;refine (Wd b _).mono ?_;rintro e w1 ⟨rfl,rfl⟩;rw [q3.out];go_wp2_with fail;refine (Ug k _ hk).mono ?_;rintro e w1 ⟨rfl,rfl⟩;generalize mixN k=z1 at *;go_wp2_with fail;refine (Ug (z1 ^^^ a) _ m4.out).mono ?_;rintro e w1 ⟨rfl,rfl⟩;generalize mixN (z1 ^^^ a)=z2 at *;go_wp2_with fail;refine (Ug (z2 ^^^ b) _ m3.out).mono ?_;rintro e w1 ⟨rfl,rfl⟩;go_wp2_with fail;go_ret;exact ⟨retI (by rw [HK.out]),rfl⟩
def tapeB (s a:Int):Bool:=inQ s 0 4294967295&&inQ a 0 1000000
theorem Yw {s a:Nat} (hs:s<4294967296) (ha:a≤1000000):tapeB s a=true:=by
 unfold tapeB;rw [YE (by omega) (by omega),YE (by omega) (by omega)];rfl
theorem Vr {s a:Int} (h:tapeB s a=true):∃S A:Nat,s=S∧a=A∧S<4294967296∧A≤1000000:=by
 unfold tapeB at h;rw [Bool.and_eq_true] at h;have h1:=Uw h.1;have h2:=Uw h.2;exact ⟨s.toNat,a.toNat,by omega,by omega,by omega,by omega⟩
theorem stTape:St Tryz.prog 41 2:=⟨⟨_,Tryz.underlying41,rfl⟩,by kernel_rfl⟩
theorem YO (s a:Int) (w:World) :
  Calls Tryz.prog 93 #[.agg #[.int .i64 s,.int .i64 a]] w fun e w'=>e=.returned (.bool (tapeB s a))∧w.grownBy w' none:=by
 cases d1:inQ s 0 4294967295
 ·have HT:Hid (tapeB s a=false):=by unfold Hid tapeB;rw [d1];rfl
  go_enter Tryz.func93,Tryz.ntmps93
  go_wp2_with fail;refine (Wc s _).mono ?_;rintro e w1 ⟨rfl,rfl⟩;rw [d1];go_wp2_with fail;go_ret;exact ⟨retB (by rw [HT.out]),gbA (gbR _ _) _⟩
 ·have HT:Hid (tapeB s a=inQ a 0 1000000):=by unfold Hid tapeB;rw [d1];rfl
  go_enter Tryz.func93,Tryz.ntmps93
  go_wp2_with fail;refine (Wc s _).mono ?_;rintro e w1 ⟨rfl,rfl⟩;rw [d1];go_wp2_with fail;refine (YX a 0 1000000 _).mono ?_;rintro e w1 ⟨rfl,rfl⟩;go_wp2_with fail;go_ret;exact ⟨retB (by rw [HT.out]),gbA (gbR _ _) _⟩
set_option maxHeartbeats 400000 in
theorem QF (s a:Nat) (w:World) (hs:s<4294967296) (ha:a<1000000) :
  Calls Tryz.prog 151 #[.agg #[.int .i64 s,.int .i64 a]] w fun e w'=>e=.returned (.tuple #[.int .i64 (keyN s 7 a),.agg #[.int .i64 s,.int .i64 ((a:Int)+1)]])∧w.grownBy w' none:=by
 have d1:=zH (Yw hs (show a≤1000000 by omega));have d3:((a:Int) == 1000000)=false:=by simp;omega
 have m:=Wf (k:=s) (a:=7) (b:=a) hs (by omega) (by omega)
 go_enter Tryz.func151,Tryz.ntmps151
 go_wp2_with fail;refine (YO s a _).mono ?_;rintro e w1 ⟨rfl,g1⟩;rw [d1.out];have B0:=zH (Blk.grow ((Blk.new w 41 #[.int .i64 s,.int .i64 a]).grow (gbA (gbR _ _) _)) g1);have B1:=zH (Blk.grow (Blk.new' (w.alloc (.cells #[.int .i64 s,.int .i64 a] 41)) 41 #[.int .i64 0,.int .i64 0] (w.heap.size+1) (by simp)) g1);have G1:=zH (gbT (gbA (gbA (gbR w none) (.cells #[.int .i64 s,.int .i64 a] 41)) (.cells #[.int .i64 0,.int .i64 0] 41)) g1);have c0:=B0.out.cell 0;have c1:=B0.out.cell 1;have b0:=B1.out.cell 0;have b1:=B1.out.cell 1;have f0:=B1.out.frozen 0;have f1:=B1.out.frozen 1;simp at c0 c1 b0 b1;clear g1;go_wp2_with fail;refine Zg [.rd (.pointer (some ⟨w.heap.size,0,none⟩)),.rd (.int .i64 s),.rd (.pointer (some ⟨w.heap.size,1,none⟩)),.rd (.int .i64 a),.rd (.int .i64 (keyN s 7 a)),.rd (.pointer (some ⟨w.heap.size,0,none⟩)),.rd (.int .i64 s),.rd (.pointer (some ⟨w.heap.size,1,none⟩)),.rd (.int .i64 a),.rd (.int .i64 ((a:Int)+1)),.rd (.agg #[.int .i64 s,.int .i64 ((a:Int)+1)]),.rd (.int .i64 (keyN s 7 a)),.ch] (fun _=>False) [⟨[],fun _ w'=>w'=w1.drew⟩,⟨[],fun _ w'=>Blk w' (w.heap.size+1) 41 #[.int .i64 s,.int .i64 ((a:Int)+1)]∧Chg (fun y=>y=w.heap.size+1) w1.drew w'⟩] (by kernel_rfl) (by kernel_rfl) (by kernel_rfl) 1 (by kernel_rfl) (by simp only [flOk,and_true]) rfl rfl ?_ ?_
 ·simp only [hopsK,hopK,Kd.next,and_true]
  refine ⟨?_, ?_, ?_, ?_, ?_, ?_, ?_, ?_, ?_, ?_, ?_, ?_, ?_⟩;rotate_left 12
  ·intro f w4 hG hI hd
   have hI:w4=w1.drew:=hI;subst hI
   (try simp at hd)
   have R4:=(B1.out).grow (gbD (gbR _ none));have rf0:=R4.frozen 0;have rg0:=(B1.out).frozen 0;have rb0:=R4.cell 0;have rf1:=R4.frozen 1;have rg1:=(B1.out).frozen 1;have rb1:=R4.cell 1;simp at rb0 rb1;have RS:=zH (Zd R4 [.int .i64 s,.int .i64 ((a:Int)+1)] rfl);clear R4
   first | simp [hd] | simp
   clear hd;go_wp2_with fail;exact ⟨rfl,.bool false,RS.out,Za (w.heap.size+1) [.int .i64 s,.int .i64 ((a:Int)+1)] 0 w1.drew⟩
  all_goals
   intro f w4 hG hd;have k0:=gbk (gbT (gbD (gbR _ none)) (chgF hG)) (c0);have k1:=gbk (gbT (gbD (gbR _ none)) (chgF hG)) (c1)
   (try simp at hd)
   (first | simp [hd] | simp)
   clear hd
   go_wp2_with (go_at_call 95;refine (UE s 7 a _ hs (by omega) (by omega)).mono ?_;rintro e w1 ⟨rfl,rfl⟩)
   exact ⟨rfl,rfl⟩
 intro f w5 hI hd;obtain ⟨hBS,hCH⟩:=hI;have hCH:=chgD hCH;simp [knowsC,dstAt] at hd;simp only [puts,dsts,Act.put,hd,zB,zC,zA,zD,zE];clear hd;go_wp2_with fail;refine Kn Tryz.results151 (by rfl) stTape (cs:=#[.int .i64 s,.int .i64 ((a:Int)+1)]) hBS (by rfl) (by rfl) ?_;exact ⟨rfl,Zu G1.out hCH (by omega)⟩
theorem Yj (s a:Int) (w:World) :
  Calls Tryz.prog 49 #[.agg #[.int .i64 s,.int .i64 a]] w fun e w'=>e=.returned (.bool (tapeB s a))∧w.grownBy w' none:=by
 cases d1:inQ s 0 4294967295
 ·have HT:Hid (tapeB s a=false):=by unfold Hid tapeB;rw [d1];rfl
  go_enter Tryz.func49,Tryz.ntmps49
  go_wp2_with fail;refine (Wd s _).mono ?_;rintro e w1 ⟨rfl,rfl⟩;rw [d1];go_wp2_with fail;go_ret;exact ⟨retB (by rw [HT.out]),gbA (gbR _ _) _⟩
 ·have HT:Hid (tapeB s a=inQ a 0 1000000):=by unfold Hid tapeB;rw [d1];rfl
  go_enter Tryz.func49,Tryz.ntmps49
  go_wp2_with fail;refine (Wd s _).mono ?_;rintro e w1 ⟨rfl,rfl⟩;rw [d1];go_wp2_with fail;refine (Xg a 0 1000000 _).mono ?_;rintro e w1 ⟨rfl,rfl⟩;go_wp2_with fail;go_ret;exact ⟨retB (by rw [HT.out]),gbA (gbR _ _) _⟩
set_option maxHeartbeats 400000 in
theorem QG (s a:Nat) (w:World) (hs:s<4294967296) (ha:a<1000000) :
  Calls Tryz.prog 160 #[.agg #[.int .i64 s,.int .i64 a]] w fun e w'=>e=.returned (.tuple #[.int .i64 (keyN s 7 a),.agg #[.int .i64 s,.int .i64 ((a:Int)+1)]])∧w.grownBy w' none:=by
 have d1:=zH (Yw hs (show a≤1000000 by omega));have d3:((a:Int) == 1000000)=false:=by simp;omega
 have m:=Wf (k:=s) (a:=7) (b:=a) hs (by omega) (by omega)
 go_enter Tryz.func160,Tryz.ntmps160
 go_wp2_with fail;refine (Yj s a _).mono ?_;rintro e w1 ⟨rfl,g1⟩;rw [d1.out];have B0:=zH (Blk.grow ((Blk.new w 41 #[.int .i64 s,.int .i64 a]).grow (gbA (gbR _ _) _)) g1);have B1:=zH (Blk.grow (Blk.new' (w.alloc (.cells #[.int .i64 s,.int .i64 a] 41)) 41 #[.int .i64 0,.int .i64 0] (w.heap.size+1) (by simp)) g1);have G1:=zH (gbT (gbA (gbA (gbR w none) (.cells #[.int .i64 s,.int .i64 a] 41)) (.cells #[.int .i64 0,.int .i64 0] 41)) g1);have c0:=B0.out.cell 0;have c1:=B0.out.cell 1;have b0:=B1.out.cell 0;have b1:=B1.out.cell 1;have f0:=B1.out.frozen 0;have f1:=B1.out.frozen 1;simp at c0 c1 b0 b1;clear g1;go_wp2_with fail;refine Zg [.rd (.pointer (some ⟨w.heap.size,0,none⟩)),.rd (.int .i64 s),.rd (.pointer (some ⟨w.heap.size,1,none⟩)),.rd (.int .i64 a),.rd (.int .i64 (keyN s 7 a)),.rd (.pointer (some ⟨w.heap.size,0,none⟩)),.rd (.int .i64 s),.rd (.pointer (some ⟨w.heap.size,1,none⟩)),.rd (.int .i64 a),.rd (.int .i64 ((a:Int)+1)),.rd (.agg #[.int .i64 s,.int .i64 ((a:Int)+1)]),.rd (.int .i64 (keyN s 7 a)),.ch] (fun _=>False) [⟨[],fun _ w'=>w'=w1.drew⟩,⟨[],fun _ w'=>Blk w' (w.heap.size+1) 41 #[.int .i64 s,.int .i64 ((a:Int)+1)]∧Chg (fun y=>y=w.heap.size+1) w1.drew w'⟩] (by kernel_rfl) (by kernel_rfl) (by kernel_rfl) 1 (by kernel_rfl) (by simp only [flOk,and_true]) rfl rfl ?_ ?_
 ·simp only [hopsK,hopK,Kd.next,and_true]
  refine ⟨?_, ?_, ?_, ?_, ?_, ?_, ?_, ?_, ?_, ?_, ?_, ?_, ?_⟩;rotate_left 12
  ·intro f w4 hG hI hd
   have hI:w4=w1.drew:=hI;subst hI
   (try simp at hd)
   have R4:=(B1.out).grow (gbD (gbR _ none));have rf0:=R4.frozen 0;have rg0:=(B1.out).frozen 0;have rb0:=R4.cell 0;have rf1:=R4.frozen 1;have rg1:=(B1.out).frozen 1;have rb1:=R4.cell 1;simp at rb0 rb1;have RS:=zH (Zd R4 [.int .i64 s,.int .i64 ((a:Int)+1)] rfl);clear R4
   first | simp [hd] | simp
   clear hd;go_wp2_with fail;exact ⟨rfl,.bool false,RS.out,Za (w.heap.size+1) [.int .i64 s,.int .i64 ((a:Int)+1)] 0 w1.drew⟩
  all_goals
   intro f w4 hG hd;have k0:=gbk (gbT (gbD (gbR _ none)) (chgF hG)) (c0);have k1:=gbk (gbT (gbD (gbR _ none)) (chgF hG)) (c1)
   (try simp at hd)
   (first | simp [hd] | simp)
   clear hd
   go_wp2_with (go_at_call 117;refine (UF s 7 a _ hs (by omega) (by omega)).mono ?_;rintro e w1 ⟨rfl,rfl⟩)
   exact ⟨rfl,rfl⟩
 intro f w5 hI hd;obtain ⟨hBS,hCH⟩:=hI;have hCH:=chgD hCH;simp [knowsC,dstAt] at hd;simp only [puts,dsts,Act.put,hd,zB,zC,zA,zD,zE];clear hd;go_wp2_with fail;refine Kn Tryz.results160 (by rfl) stTape (cs:=#[.int .i64 s,.int .i64 ((a:Int)+1)]) hBS (by rfl) (by rfl) ?_;exact ⟨rfl,Zu G1.out hCH (by omega)⟩
end Go.Proofs.YthaadgdeadbhkaaGreat
namespace Go.Proofs.YthaadgdeadbhkaaGreat
attribute [local simp] depsC dstAt kAt bindE List.filter_cons Zz Zq Zr Zs ZA ZW puts dsts Act.put
def belN (s a n:Nat):Nat:=keyN s 7 a / 256 % n
theorem Qb {s a n:Nat} (h:0<n):belN s a n<n:=Nat.mod_lt _ h
set_option maxHeartbeats 400000 in
theorem Xu (s a n:Nat) (w:World) (hs:s<4294967296) (ha:a<1000000) (hn1:1≤n) (hn:n≤65536) :
  Calls Tryz.prog 99 #[.agg #[.int .i64 s,.int .i64 a],.int .i64 n] w fun e w'=>e=.returned (.tuple #[.int .i64 (belN s a n),.agg #[.int .i64 s,.int .i64 ((a:Int)+1)]])∧w.grownBy w' none:=by
 have q1:=zH (YE (z:=(n:Int)) (a:=1) (b:=65536) (by omega) (by omega));have d1:=zH (Yw hs (show a≤1000000 by omega));have d3:((a:Int) == 1000000)=false:=by simp;omega
 have m:=Wf (k:=s) (a:=7) (b:=a) hs (by omega) (by omega);have HB:Hid (belN s a n=keyN s 7 a / 256 % n):=rfl;have n0:¬(n:Int)=0:=by omega
 have n1:¬n=0:=by omega
 go_enter Tryz.func99,Tryz.ntmps99
 have B0:=zH ((Blk.new w 41 #[.int .i64 s,.int .i64 a]).grow (gbA (gbR _ _) (.cells #[.int .i64 0,.int .i64 0] 41)));have B1:=zH (Blk.new' (w.alloc (.cells #[.int .i64 s,.int .i64 a] 41)) 41 #[.int .i64 0,.int .i64 0] (w.heap.size+1) (by simp));have G1:=zH (gbA (gbA (gbR w none) (.cells #[.int .i64 s,.int .i64 a] 41)) (.cells #[.int .i64 0,.int .i64 0] 41));go_wp2_with fail;refine (YX n 1 65536 _).mono ?_;rintro e w1 ⟨rfl,rfl⟩;rw [q1.out];go_wp2_with fail;refine (QF s a _ hs ha).mono ?_;rintro e w2 ⟨rfl,g2⟩;have z2:=g2.size;have B2:=zH (B1.out.grow g2);have G2:=zH (gbT G1.out g2);have L2:=B2.out.lt;clear g2 B0 B1
 try clear c0 c1
 go_wp2_with fail;obtain ⟨w3,hw3⟩:∃x:World,w2.alloc (.cells #[.int .i64 s,.int .i64 ((a:Int)+1)] 41)=x:=⟨_,rfl⟩;have B3:Hid (Blk w3 (w.heap.size+1) 41 #[.int .i64 0,.int .i64 0]):=by rw [← hw3];exact B2.out.grow (gbA (gbR _ _) _)
 have N3:Hid (Blk w3 w2.heap.size 41 #[.int .i64 s,.int .i64 ((a:Int)+1)]):=by rw [← hw3];exact Blk.new _ _ _
 have G3:Hid (w.grownBy w3 none):=by rw [← hw3];exact gbA G2.out _
 rw [hw3];clear hw3;have c0:=N3.out.cell 0;have c1:=N3.out.cell 1;simp at c0 c1;obtain ⟨kn,hkn⟩:∃x,keyN s 7 a=x:=⟨_,rfl⟩;rw [hkn] at HB m ⊢;have HB2:Hid (((kn:Int) / 256 % (n:Int))=((kn / 256 % n:Nat):Int)):=by unfold Hid;simp
 clear hkn;refine Zg [.rd (.int .i64 kn),.rd (.int .i64 ((kn:Int) / 256)),.rd (.int .i64 n),.rd (.int .i64 ((kn:Int) / 256 % (n:Int))),.rd (.agg #[.int .i64 s,.int .i64 ((a:Int)+1)]),.rd (.int .i64 ((kn:Int) / 256 % (n:Int))),.ch] (fun _=>False) [⟨[],fun _ w'=>w'=w3.drew⟩,⟨[],fun _ w'=>Blk w' (w.heap.size+1) 41 #[.int .i64 s,.int .i64 ((a:Int)+1)]∧Chg (fun y=>y=w.heap.size+1) w3.drew w'⟩] (by kernel_rfl) (by kernel_rfl) (by kernel_rfl) 1 (by kernel_rfl) (by simp only [flOk,and_true]) rfl rfl ?_ ?_
 ·simp only [hopsK,hopK,Kd.next,and_true]
  refine ⟨?_, ?_, ?_, ?_, ?_, ?_, ?_⟩;rotate_left 6
  ·intro f w4 hG hI hd
   have hI:w4=w3.drew:=hI;subst hI
   (try simp at hd)
   have R4:=(B3.out).grow (gbD (gbR _ none));have rf0:=R4.frozen 0;have rg0:=(B3.out).frozen 0;have rb0:=R4.cell 0;have rf1:=R4.frozen 1;have rg1:=(B3.out).frozen 1;have rb1:=R4.cell 1;simp at rb0 rb1;have RS:=zH (Zd R4 [.int .i64 s,.int .i64 ((a:Int)+1)] rfl);clear R4
   first | simp [hd] | simp
   clear hd;go_wp2_with fail;exact ⟨rfl,.bool false,RS.out,Za (w.heap.size+1) [.int .i64 s,.int .i64 ((a:Int)+1)] 0 w3.drew⟩
  all_goals
   intro f w4 hG hd;have k0:=gbk (gbT (gbD (gbR _ none)) (chgF hG)) (c0);have k1:=gbk (gbT (gbD (gbR _ none)) (chgF hG)) (c1)
   (try simp at hd)
   (first | simp [hd] | simp)
   clear hd
   go_wp2_with (fail)
   exact ⟨rfl,rfl⟩
 intro f w5 hI hd;obtain ⟨hBS,hCH⟩:=hI;have hCH:=chgD hCH;simp [knowsC,dstAt] at hd;simp only [puts,dsts,Act.put,hd,zB,zC,zA,zD,zE];clear hd;go_wp2_with fail;refine Kn Tryz.results99 (by rfl) stTape (cs:=#[.int .i64 s,.int .i64 ((a:Int)+1)]) hBS (by rfl) (by rfl) ?_;refine ⟨?_,Zu G3.out hCH (by omega)⟩;simp only [HB.out,← HB2.out];rfl
set_option maxHeartbeats 400000 in
theorem Xb (s a n:Nat) (w:World) (hs:s<4294967296) (ha:a≤1000000) (hn:n≤1000000) :
  Calls Tryz.prog 40 #[.agg #[.int .i64 s,.int .i64 a],.int .i64 n] w fun e w'=>e=.returned (.agg #[.int .i64 (keyN s 9 n),.int .i64 0])∧w.grownBy w' none:=by
 obtain ⟨kn,hkn⟩:∃x,keyN s 9 n=x:=⟨_,rfl⟩;rw [hkn];have q1:=zH (YE (z:=(n:Int)) (a:=0) (b:=1000000) (by omega) (by omega));have d1:=zH (Yw hs ha)
 go_enter Tryz.func40,Tryz.ntmps40
 have B0:=zH ((Blk.new w 41 #[.int .i64 s,.int .i64 a]).grow (gbA (gbR _ _) (.cells #[.int .i64 0,.int .i64 0] 41)));have B1:=zH (Blk.new' (w.alloc (.cells #[.int .i64 s,.int .i64 a] 41)) 41 #[.int .i64 0,.int .i64 0] (w.heap.size+1) (by simp));have G1:=zH (gbA (gbA (gbR w none) (.cells #[.int .i64 s,.int .i64 a] 41)) (.cells #[.int .i64 0,.int .i64 0] 41));go_wp2_with fail;refine (YO s a _).mono ?_;rintro e w1 ⟨rfl,g1⟩;rw [d1.out];have B0:=zH (B0.out.grow g1);have B1:=zH (B1.out.grow g1);have G1:=zH (gbT G1.out g1);clear g1;have c0:=B0.out.cell 0;have c1:=B0.out.cell 1;have b0:=B1.out.cell 0;have b1:=B1.out.cell 1;have f0:=B1.out.frozen 0;have f1:=B1.out.frozen 1;simp at c0 c1 b0 b1;go_wp2_with fail;refine (YX n 0 1000000 _).mono ?_;rintro e w2 ⟨rfl,rfl⟩;rw [q1.out];go_wp2_with fail;refine (UE s 9 n _ hs (by omega) (by omega)).mono ?_;rintro e w2 ⟨rfl,rfl⟩;rw [hkn];have RS:=zH (Zd B1.out [.int .i64 (kn),.int .i64 0] rfl);have CH:=zH (Za (w.heap.size+1) [.int .i64 (kn),.int .i64 0] 0 w1);go_wp2_with fail;refine YJ Tryz.results40 (by rfl) stTape (cs:=#[.int .i64 (kn),.int .i64 0]) RS.out (by rfl) (by rfl) ?_;exact ⟨rfl,Zu G1.out CH.out (by omega)⟩
set_option maxHeartbeats 400000 in
theorem Xv (s a n:Nat) (w:World) (hs:s<4294967296) (ha:a<1000000) (hn1:1≤n) (hn:n≤65536) :
  Calls Tryz.prog 120 #[.agg #[.int .i64 s,.int .i64 a],.int .i64 n] w fun e w'=>e=.returned (.tuple #[.int .i64 (belN s a n),.agg #[.int .i64 s,.int .i64 ((a:Int)+1)]])∧w.grownBy w' none:=by
 have q1:=zH (YE (z:=(n:Int)) (a:=1) (b:=65536) (by omega) (by omega));have d1:=zH (Yw hs (show a≤1000000 by omega));have d3:((a:Int) == 1000000)=false:=by simp;omega
 have m:=Wf (k:=s) (a:=7) (b:=a) hs (by omega) (by omega);have HB:Hid (belN s a n=keyN s 7 a / 256 % n):=rfl;have n0:¬(n:Int)=0:=by omega
 have n1:¬n=0:=by omega
 go_enter Tryz.func120,Tryz.ntmps120
 have B0:=zH ((Blk.new w 41 #[.int .i64 s,.int .i64 a]).grow (gbA (gbR _ _) (.cells #[.int .i64 0,.int .i64 0] 41)));have B1:=zH (Blk.new' (w.alloc (.cells #[.int .i64 s,.int .i64 a] 41)) 41 #[.int .i64 0,.int .i64 0] (w.heap.size+1) (by simp));have G1:=zH (gbA (gbA (gbR w none) (.cells #[.int .i64 s,.int .i64 a] 41)) (.cells #[.int .i64 0,.int .i64 0] 41));go_wp2_with fail;refine (Xg n 1 65536 _).mono ?_;rintro e w1 ⟨rfl,rfl⟩;rw [q1.out];go_wp2_with fail;refine (Yj s a _).mono ?_;rintro e w1 ⟨rfl,g1⟩;rw [d1.out];have B0:=zH (B0.out.grow g1);have B1:=zH (B1.out.grow g1);have G1:=zH (gbT G1.out g1);clear g1;have c0:=B0.out.cell 0;have c1:=B0.out.cell 1;simp at c0 c1;go_wp2_with fail;refine (QG s a _ hs ha).mono ?_;rintro e w2 ⟨rfl,g2⟩;have z2:=g2.size;have B2:=zH (B1.out.grow g2);have G2:=zH (gbT G1.out g2);have L2:=B2.out.lt;clear g2 B0 B1
 try clear c0 c1
 go_wp2_with fail;obtain ⟨w3,hw3⟩:∃x:World,w2.alloc (.cells #[.int .i64 s,.int .i64 ((a:Int)+1)] 41)=x:=⟨_,rfl⟩;have B3:Hid (Blk w3 (w.heap.size+1) 41 #[.int .i64 0,.int .i64 0]):=by rw [← hw3];exact B2.out.grow (gbA (gbR _ _) _)
 have N3:Hid (Blk w3 w2.heap.size 41 #[.int .i64 s,.int .i64 ((a:Int)+1)]):=by rw [← hw3];exact Blk.new _ _ _
 have G3:Hid (w.grownBy w3 none):=by rw [← hw3];exact gbA G2.out _
 rw [hw3];clear hw3;have c0:=N3.out.cell 0;have c1:=N3.out.cell 1;simp at c0 c1;obtain ⟨kn,hkn⟩:∃x,keyN s 7 a=x:=⟨_,rfl⟩;rw [hkn] at HB m ⊢;have HB2:Hid (((kn:Int) / 256 % (n:Int))=((kn / 256 % n:Nat):Int)):=by unfold Hid;simp
 clear hkn;refine Zg [.rd (.int .i64 kn),.rd (.int .i64 ((kn:Int) / 256)),.rd (.int .i64 n),.rd (.int .i64 ((kn:Int) / 256 % (n:Int))),.rd (.agg #[.int .i64 s,.int .i64 ((a:Int)+1)]),.rd (.int .i64 ((kn:Int) / 256 % (n:Int))),.ch] (fun _=>False) [⟨[],fun _ w'=>w'=w3.drew⟩,⟨[],fun _ w'=>Blk w' (w.heap.size+1) 41 #[.int .i64 s,.int .i64 ((a:Int)+1)]∧Chg (fun y=>y=w.heap.size+1) w3.drew w'⟩] (by kernel_rfl) (by kernel_rfl) (by kernel_rfl) 1 (by kernel_rfl) (by simp only [flOk,and_true]) rfl rfl ?_ ?_
 ·simp only [hopsK,hopK,Kd.next,and_true]
  refine ⟨?_, ?_, ?_, ?_, ?_, ?_, ?_⟩;rotate_left 6
  ·intro f w4 hG hI hd
   have hI:w4=w3.drew:=hI;subst hI
   (try simp at hd)
   have R4:=(B3.out).grow (gbD (gbR _ none));have rf0:=R4.frozen 0;have rg0:=(B3.out).frozen 0;have rb0:=R4.cell 0;have rf1:=R4.frozen 1;have rg1:=(B3.out).frozen 1;have rb1:=R4.cell 1;simp at rb0 rb1;have RS:=zH (Zd R4 [.int .i64 s,.int .i64 ((a:Int)+1)] rfl);clear R4
   first | simp [hd] | simp
   clear hd;go_wp2_with fail;exact ⟨rfl,.bool false,RS.out,Za (w.heap.size+1) [.int .i64 s,.int .i64 ((a:Int)+1)] 0 w3.drew⟩
  all_goals
   intro f w4 hG hd;have k0:=gbk (gbT (gbD (gbR _ none)) (chgF hG)) (c0);have k1:=gbk (gbT (gbD (gbR _ none)) (chgF hG)) (c1)
   (try simp at hd)
   (first | simp [hd] | simp)
   clear hd
   go_wp2_with (fail)
   exact ⟨rfl,rfl⟩
 intro f w5 hI hd;obtain ⟨hBS,hCH⟩:=hI;have hCH:=chgD hCH;simp [knowsC,dstAt] at hd;simp only [puts,dsts,Act.put,hd,zB,zC,zA,zD,zE];clear hd;go_wp2_with fail;refine Kn Tryz.results120 (by rfl) stTape (cs:=#[.int .i64 s,.int .i64 ((a:Int)+1)]) hBS (by rfl) (by rfl) ?_;refine ⟨?_,Zu G3.out hCH (by omega)⟩;simp only [HB.out,← HB2.out];rfl
set_option maxHeartbeats 400000 in
theorem Xc (s a n:Nat) (w:World) (hs:s<4294967296) (ha:a≤1000000) (hn:n≤1000000) :
  Calls Tryz.prog 51 #[.agg #[.int .i64 s,.int .i64 a],.int .i64 n] w fun e w'=>e=.returned (.agg #[.int .i64 (keyN s 9 n),.int .i64 0])∧w.grownBy w' none:=by
 obtain ⟨kn,hkn⟩:∃x,keyN s 9 n=x:=⟨_,rfl⟩;rw [hkn];have q1:=zH (YE (z:=(n:Int)) (a:=0) (b:=1000000) (by omega) (by omega));have d1:=zH (Yw hs ha)
 go_enter Tryz.func51,Tryz.ntmps51
 have B0:=zH ((Blk.new w 41 #[.int .i64 s,.int .i64 a]).grow (gbA (gbR _ _) (.cells #[.int .i64 0,.int .i64 0] 41)));have B1:=zH (Blk.new' (w.alloc (.cells #[.int .i64 s,.int .i64 a] 41)) 41 #[.int .i64 0,.int .i64 0] (w.heap.size+1) (by simp));have G1:=zH (gbA (gbA (gbR w none) (.cells #[.int .i64 s,.int .i64 a] 41)) (.cells #[.int .i64 0,.int .i64 0] 41));go_wp2_with fail;refine (Yj s a _).mono ?_;rintro e w1 ⟨rfl,g1⟩;rw [d1.out];have B0:=zH (B0.out.grow g1);have B1:=zH (B1.out.grow g1);have G1:=zH (gbT G1.out g1);clear g1;have c0:=B0.out.cell 0;have c1:=B0.out.cell 1;have b0:=B1.out.cell 0;have b1:=B1.out.cell 1;have f0:=B1.out.frozen 0;have f1:=B1.out.frozen 1;simp at c0 c1 b0 b1;go_wp2_with fail;refine (Xg n 0 1000000 _).mono ?_;rintro e w2 ⟨rfl,rfl⟩;rw [q1.out];go_wp2_with fail;refine (UF s 9 n _ hs (by omega) (by omega)).mono ?_;rintro e w2 ⟨rfl,rfl⟩;rw [hkn];have RS:=zH (Zd B1.out [.int .i64 (kn),.int .i64 0] rfl);have CH:=zH (Za (w.heap.size+1) [.int .i64 (kn),.int .i64 0] 0 w1);go_wp2_with fail;refine YJ Tryz.results51 (by rfl) stTape (cs:=#[.int .i64 (kn),.int .i64 0]) RS.out (by rfl) (by rfl) ?_;exact ⟨rfl,Zu G1.out CH.out (by omega)⟩
end Go.Proofs.YthaadgdeadbhkaaGreat
