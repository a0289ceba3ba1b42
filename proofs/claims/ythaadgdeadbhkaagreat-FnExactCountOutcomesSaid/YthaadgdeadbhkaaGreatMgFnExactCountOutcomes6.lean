/-
 TapeList: what it computes.
-/
import Derived.Test.YthaadgdeadbhkaaGreatMgFnExactCountOutcomes5
import Derived.IntWalk
import Derived.Deep.DeepCutAuto
open Go.RowKit
set_option linter.unusedVariables false
set_option linter.unusedSimpArgs false
namespace Go.Proofs.YthaadgdeadbhkaaGreat
attribute [local simp] depsC dstAt kAt bindE List.filter_cons Zz Zq Zr Zs ZA ZW puts dsts Act.put
def tapeL (s a n k:Nat):List Int:=(List.range k).map fun j=>((belN s (a+j) n:Nat):Int)
theorem Kx (s a n k:Nat):(tapeL s a n k).length=k:=by simp [tapeL]
theorem tapeL_succ (s a n k:Nat):tapeL s a n (k+1)=tapeL s a n k ++ [((belN s (a+k) n:Nat):Int)]:=by
 unfold tapeL;rw [List.range_succ,List.map_append];rfl
theorem tapeL_rng {s a n k:Nat} (hn:0<n):∀z∈tapeL s a n k,0≤z∧z<(n:Int):=fun z hz=>by
 unfold tapeL at hz;obtain ⟨j,_,rfl⟩:=List.mem_map.1 hz;have:=Qb (s:=s) (a:=a+j) hn;omega
set_option maxHeartbeats 1000000 in
theorem Vn (s a n k:Nat) (w:World) (hs:s<4294967296) (hk:k≤1000) (ha:a+k≤1000000) (hn1:1≤n) (hn:n≤65536) :
  Calls Tryz.prog 141 #[.agg #[.int .i64 s,.int .i64 a],.int .i64 n,.int .i64 k] w fun e w'=>∃v,e=.returned (.tuple #[v,.agg #[.int .i64 s,.int .i64 ((a+k:Nat):Int)]])∧w'.ownsRow w.heap.size 3 1 v k ((tapeL s a n k).map (Value.int .i64))∧w.grownBy w' none:=by
 have q1:=zH (YE (z:=(k:Int)) (a:=0) (b:=1000) (by omega) (by omega));have q2:=zH (YE (z:=(n:Int)) (a:=1) (b:=65536) (by omega) (by omega));have d1:=zH (Yw hs (show a≤1000000 by omega));have d3:¬(1000000:Int)<(a:Int)+(k:Int):=by omega
 go_enter Tryz.func141,Tryz.ntmps141
 have B0:=zH ((Blk.new w 41 #[.int .i64 s,.int .i64 a]).grow (gbA (gbR _ _) (.cells #[.int .i64 0,.int .i64 0] 41)));have B1:=zH (Blk.new' (w.alloc (.cells #[.int .i64 s,.int .i64 a] 41)) 41 #[.int .i64 0,.int .i64 0] (w.heap.size+1) (by simp));have G1:=zH (gbA (gbA (gbR w none) (.cells #[.int .i64 s,.int .i64 a] 41)) (.cells #[.int .i64 0,.int .i64 0] 41));have B0:=zH (B0.out.grow (gbA (gbR _ _) (.cells #[] 3)));have B1:=zH (B1.out.grow (gbA (gbR _ _) (.cells #[] 3)));have G1:=zH (gbA G1.out (.cells #[] 3));have O1:=zH (World.ownsRow_made (e:=3) (size:=1) (base:=w.heap.size) ((w.alloc (.cells #[.int .i64 s,.int .i64 a] 41)).alloc (.cells #[.int .i64 0,.int .i64 0] 41)) #[] 0 (by simp;omega) (by simp) rfl);go_wp2_with fail;refine (YX k 0 1000 _).mono ?_;rintro e w1 ⟨rfl,rfl⟩;rw [q1.out];go_wp2_with fail;refine (YX n 1 65536 _).mono ?_;rintro e w1 ⟨rfl,rfl⟩;rw [q2.out];go_wp2_with fail;refine (YO s a _).mono ?_;rintro e w1 ⟨rfl,g1⟩;rw [d1.out];have z1:=g1.size;simp at z1;have B0:=zH (B0.out.grow g1);have B1:=zH (B1.out.grow g1);have G1:=zH (gbT G1.out g1);have O1:=zH (Zj O1.out g1);clear g1;have c1:=B0.out.cell 1;simp at c1;go_wp2_with fail
 have O2:Hid (w1.ownsRow (w.heap.size+2) 3 1 (.slice (some ⟨w.heap.size+1+1,0,none⟩) 0 0) 0 ((tapeL s a n 0).map (Value.int .i64))):=by
  have:=Wz (base':=w.heap.size+2) O1.out (fun g hg=>by simp [Value.ownBlock] at hg;omega);unfold Hid
  simpa [tapeL] using this
 have G2:=zH (gbR w1 none);have B0':=zH (B0.out.grow G2.out);have B1':=zH (B1.out.grow G2.out);have G1':=zH (gbT G1.out G2.out);clear B0 B1 G1 G2 c1
 go_loopw [8,9] (fun v i wr=>∃j:Nat,j≤k∧i=.int .i64 j∧Hid (wr.ownsRow (w.heap.size+2) 3 1 v j ((tapeL s a n j).map (Value.int .i64)))∧Hid (Blk wr w.heap.size 41 #[.int .i64 s,.int .i64 ((a:Int)+(j:Int))])∧Hid (Blk wr (w.heap.size+1) 41 #[.int .i64 0,.int .i64 0])∧Hid (w.grownBy wr none)) (fun _ i _=>k - (intOf i).toNat)
 case atStart=>exact ⟨0,Nat.zero_le _,rfl,O2.out,zH (by simpa using B0'.out),B1'.out,G1'.out⟩
 case round =>
  obtain ⟨j,hj,rfl,hO,hB,hC,hG⟩:=hrel;obtain ⟨A4,c4,rfl,_,_⟩:=ZB hO.out;have b0:=hB.out.cell 0;have b1:=hB.out.cell 1;simp at b0 b1
  by_cases hlt:j<k
  ·have i1:(j:Int)<(k:Int):=by omega
   have HS:=zH (tapeL_succ s a n j);rw [show (a:Int)+(j:Int)=((a+j:Nat):Int) by omega] at b1;have hsz:=hG.out.size;have hl1:=hC.out.lt;go_wp2_with fail;refine (Xu s (a+j) n _ hs (by omega) hn1 hn).mono ?_;rintro e w2 ⟨rfl,g2⟩;have z2:=g2.size;have OW:=zH (Zj hO.out g2);have BW:=zH (hB.out.grow g2);have CW:=zH (hC.out.grow g2);have GW:=zH (gbT hG.out g2);obtain ⟨bn,hbn⟩:∃x,belN s (a+j) n=x:=⟨_,rfl⟩;rw [hbn] at HS ⊢;have b0':=BW.out.cell 0;have b1':=BW.out.cell 1;have f0':=BW.out.frozen 0;have f1':=BW.out.frozen 1;have lb:=BW.out.lt;simp at b0' b1';clear hO hB hC hG g2 b0 b1 hbn;have CH:=zH (Za w.heap.size [.int .i64 s,.int .i64 (((a+j:Nat):Int)+1)] 0 w2);have OW3:=zH (Chg.own OW.out CH.out (fun g hg (e:g=w.heap.size)=>by have:=(OW.out.lt g hg).1;omega));have BW3:=zH (Zd BW.out [.int .i64 s,.int .i64 (((a+j:Nat):Int)+1)] rfl);have CW3:=zH (CW.out.chg CH.out (by omega));have GW3:=zH (Zu GW.out CH.out (Nat.le_refl _));obtain ⟨w3,hw3⟩:∃x,Zm w2 w.heap.size 0 [.int .i64 s,.int .i64 (((a+j:Nat):Int)+1)]=x:=⟨_,rfl⟩;have hz3:w3.heap.size=w2.heap.size:=by rw [← hw3];simp [Zm]
   rw [hw3] at OW3 BW3 CW3 GW3;simp [Zm] at hw3;have OW4:=zH (Zj OW3.out (gbA (gbR _ none) (.cells #[.int .i64 s,.int .i64 ((a:Int)+(j:Int)+1)] 41)));have BW4:=zH (BW3.out.grow (gbA (gbR _ none) (.cells #[.int .i64 s,.int .i64 ((a:Int)+(j:Int)+1)] 41)));have CW4:=zH (CW3.out.grow (gbA (gbR _ none) (.cells #[.int .i64 s,.int .i64 ((a:Int)+(j:Int)+1)] 41)));have GW4:=zH (gbA GW3.out (.cells #[.int .i64 s,.int .i64 ((a:Int)+(j:Int)+1)] 41));clear CH OW BW CW GW OW3 BW3 CW3 GW3
   go_wp2_with (at_builtin;(refine ZK _ (w2.heap.size+1) (by simp;omega) ZZ rfl (.tmp 47) (.tmp 49) rfl _ rfl (by simp [Value.oneCell']) (w.heap.size+2) _ j _ OW4.out rfl rfl (by unfold maxLen;omega) (by omega) (by simp;omega) ?_);intro v' w5 hown5 hgrow5)
   have h1:Hid (w5.ownsRow (w.heap.size+2) 3 1 v' (j+1) ((tapeL s a n (j+1)).map (Value.int .i64))):=by unfold Hid;rw [HS.out];simpa using hown5
   have h2:Hid (Blk w5 w.heap.size 41 #[.int .i64 s,.int .i64 ((a:Int)+((j+1:Nat):Int))]):=by
    have:=BW4.out.grown hgrow5 (fun e=>by have:=(OW4.out.lt _ e.symm).1;omega);rw [show (a:Int)+((j+1:Nat):Int)=((a+j:Nat):Int)+1 by omega];exact this
   have h3:=zH (CW4.out.grown hgrow5 (fun e=>by have:=(OW4.out.lt _ e.symm).1;omega));have h4:=zH (gbN GW4.out hgrow5 (fun g e=>by have:=(OW4.out.lt g e).1;omega));clear hown5 hgrow5 OW4 BW4 CW4 GW4
   go_roundw
   case rel=>exact ⟨j+1,by omega,by go_num,h1,h2,h3,h4⟩
   case measure=>simp [intOf];omega
  ·have hjk:j=k:=by omega
   subst hjk;have f0:=hC.out.frozen 0;have f1:=hC.out.frozen 1;have c0:=hC.out.cell 0;have c1:=hC.out.cell 1;simp at c0 c1;have OE:=zH hO.out;go_wp2_with fail;refine Zg [.rd (.slice A4 j c4),.rd (.agg #[.int .i64 s,.int .i64 ((a:Int)+(j:Int))]),.rd (.slice A4 j c4),.ch] (fun _=>False) [⟨[],fun _ w'=>w'=wr.drew⟩,⟨[],fun _ w'=>Blk w' (w.heap.size+1) 41 #[.int .i64 s,.int .i64 ((a:Int)+(j:Int))]∧Chg (fun y=>y=w.heap.size+1) wr.drew w'⟩] (by kernel_rfl) (by kernel_rfl) (by kernel_rfl) 1 (by kernel_rfl) (by simp only [flOk,and_true]) rfl rfl ?_ ?_
   ·simp only [hopsK,hopK,Kd.next,and_true]
    refine ⟨?_, ?_, ?_, ?_⟩;rotate_left 3
    ·intro f w4 hG hI hd
     have hI:w4=wr.drew:=hI;subst hI
     (try simp at hd)
     have R4:=(hC.out).grow (gbD (gbR _ none));have rf0:=R4.frozen 0;have rg0:=(hC.out).frozen 0;have rb0:=R4.cell 0;have rf1:=R4.frozen 1;have rg1:=(hC.out).frozen 1;have rb1:=R4.cell 1;simp at rb0 rb1;have RS:=zH (Zd R4 [.int .i64 s,.int .i64 ((a:Int)+(j:Int))] rfl);clear R4
     first | simp [hd] | simp
     clear hd;go_wp2_with fail;exact ⟨rfl,.bool false,RS.out,Za (w.heap.size+1) [.int .i64 s,.int .i64 ((a:Int)+(j:Int))] 0 wr.drew⟩
    all_goals
     intro f w4 hG hd;have k0:=gbk (gbT (gbD (gbR _ none)) (chgF hG)) (b0);have k1:=gbk (gbT (gbD (gbR _ none)) (chgF hG)) (b1)
     (try simp at hd)
     (first | simp [hd] | simp)
     clear hd
     go_wp2_with (fail)
     exact ⟨rfl,rfl⟩
   intro f w5 hI hd;obtain ⟨hBS,hCH⟩:=hI;have hCH:=chgD hCH;simp [knowsC,dstAt] at hd;simp only [puts,dsts,Act.put,hd,zB,zC,zA,zD,zE];clear hd;have h4:=zH (Zu hG.out hCH (by omega));have h1:=zH (Chg.own OE.out hCH (fun g hg (e:g=w.heap.size+1)=>by have:=(OE.out.lt g hg).1;omega));go_wp2_with fail;refine Kn Tryz.results141 (by rfl) stTape (cs:=#[.int .i64 s,.int .i64 ((a:Int)+(j:Int))]) hBS (by rfl) (by rfl) ?_;exact ⟨_,by rw [show ((a+j:Nat):Int)=(a:Int)+(j:Int) by omega];rfl,ZE h1.out (by omega),h4.out⟩
set_option maxHeartbeats 1000000 in
theorem QH (s a n k:Nat) (w:World) (hs:s<4294967296) (hk:k≤1000) (ha:a+k≤1000000) (hn1:1≤n) (hn:n≤65536) :
  Calls Tryz.prog 161 #[.agg #[.int .i64 s,.int .i64 a],.int .i64 n,.int .i64 k] w fun e w'=>∃v,e=.returned (.tuple #[v,.agg #[.int .i64 s,.int .i64 ((a+k:Nat):Int)]])∧w'.ownsRow w.heap.size 3 1 v k ((tapeL s a n k).map (Value.int .i64))∧w.grownBy w' none:=by
 have q1:=zH (YE (z:=(k:Int)) (a:=0) (b:=1000) (by omega) (by omega));have q2:=zH (YE (z:=(n:Int)) (a:=1) (b:=65536) (by omega) (by omega));have d1:=zH (Yw hs (show a≤1000000 by omega));have d3:¬(1000000:Int)<(a:Int)+(k:Int):=by omega
 go_enter Tryz.func161,Tryz.ntmps161
 have B0:=zH ((Blk.new w 41 #[.int .i64 s,.int .i64 a]).grow (gbA (gbR _ _) (.cells #[.int .i64 0,.int .i64 0] 41)));have B1:=zH (Blk.new' (w.alloc (.cells #[.int .i64 s,.int .i64 a] 41)) 41 #[.int .i64 0,.int .i64 0] (w.heap.size+1) (by simp));have G1:=zH (gbA (gbA (gbR w none) (.cells #[.int .i64 s,.int .i64 a] 41)) (.cells #[.int .i64 0,.int .i64 0] 41));go_wp2_with fail;refine (Xg k 0 1000 _).mono ?_;rintro e w1 ⟨rfl,rfl⟩;rw [q1.out];go_wp2_with fail;refine (Xg n 1 65536 _).mono ?_;rintro e w1 ⟨rfl,rfl⟩;rw [q2.out];go_wp2_with fail;refine (Yj s a _).mono ?_;rintro e w1 ⟨rfl,g1⟩;rw [d1.out];have z1:=g1.size;simp at z1;have B0:=zH (B0.out.grow g1);have B1:=zH (B1.out.grow g1);have G1:=zH (gbT G1.out g1);clear g1;have c1:=B0.out.cell 1;simp at c1;go_wp2_with fail;have O2:Hid ((w1.alloc (.cells #[] 3)).ownsRow (w.heap.size+2) 3 1 (.slice (some ⟨w1.heap.size,0,none⟩) 0 0) 0 ((tapeL s a n 0).map (Value.int .i64))):=World.ownsRow_made (e:=3) (size:=1) (base:=w.heap.size+2) w1 #[] 0 (by omega) (by simp) rfl;have G2:=zH (gbA (gbR w1 none) (.cells #[] 3));have B0':=zH (B0.out.grow G2.out);have B1':=zH (B1.out.grow G2.out);have G1':=zH (gbT G1.out G2.out);clear B0 B1 G1 G2 c1
 go_loopw [8,9] (fun v i wr=>∃j:Nat,j≤k∧i=.int .i64 j∧Hid (wr.ownsRow (w.heap.size+2) 3 1 v j ((tapeL s a n j).map (Value.int .i64)))∧Hid (Blk wr w.heap.size 41 #[.int .i64 s,.int .i64 ((a:Int)+(j:Int))])∧Hid (Blk wr (w.heap.size+1) 41 #[.int .i64 0,.int .i64 0])∧Hid (w.grownBy wr none)) (fun _ i _=>k - (intOf i).toNat)
 case atStart=>exact ⟨0,Nat.zero_le _,rfl,O2.out,zH (by simpa using B0'.out),B1'.out,G1'.out⟩
 case round =>
  obtain ⟨j,hj,rfl,hO,hB,hC,hG⟩:=hrel;obtain ⟨A4,c4,rfl,_,_⟩:=ZB hO.out;have b0:=hB.out.cell 0;have b1:=hB.out.cell 1;simp at b0 b1
  by_cases hlt:j<k
  ·have i1:(j:Int)<(k:Int):=by omega
   have HS:=zH (tapeL_succ s a n j);rw [show (a:Int)+(j:Int)=((a+j:Nat):Int) by omega] at b1;have hsz:=hG.out.size;have hl1:=hC.out.lt;go_wp2_with fail;refine (Xv s (a+j) n _ hs (by omega) hn1 hn).mono ?_;rintro e w2 ⟨rfl,g2⟩;have z2:=g2.size;have OW:=zH (Zj hO.out g2);have BW:=zH (hB.out.grow g2);have CW:=zH (hC.out.grow g2);have GW:=zH (gbT hG.out g2);obtain ⟨bn,hbn⟩:∃x,belN s (a+j) n=x:=⟨_,rfl⟩;rw [hbn] at HS ⊢;have b0':=BW.out.cell 0;have b1':=BW.out.cell 1;have f0':=BW.out.frozen 0;have f1':=BW.out.frozen 1;have lb:=BW.out.lt;simp at b0' b1';clear hO hB hC hG g2 b0 b1 hbn;have OW4:=zH (Zj OW.out (gbA (gbR _ none) (.cells #[.int .i64 s,.int .i64 ((a:Int)+(j:Int)+1)] 41)));have BW4:=zH (BW.out.grow (gbA (gbR _ none) (.cells #[.int .i64 s,.int .i64 ((a:Int)+(j:Int)+1)] 41)));have CW4:=zH (CW.out.grow (gbA (gbR _ none) (.cells #[.int .i64 s,.int .i64 ((a:Int)+(j:Int)+1)] 41)));have NW4:=zH (Blk.new w2 41 #[.int .i64 s,.int .i64 ((a:Int)+(j:Int)+1)]);have GW4:=zH (gbA GW.out (.cells #[.int .i64 s,.int .i64 ((a:Int)+(j:Int)+1)] 41));have OL:=zH (fun g hg=>OW.out.lt g hg);clear OW BW CW GW b0' b1' f0' f1'
   go_wp2_with (at_builtin;(refine ZK _ (w2.heap.size+1) (by simp) ZZ rfl (.tmp 45) (.tmp 47) rfl _ rfl (by simp [Value.oneCell']) (w.heap.size+2) _ j _ OW4.out rfl rfl (by unfold maxLen;omega) (by omega) (by simp;omega) ?_);intro v' w5 hown5 hgrow5;(have BW5:=zH (BW4.out.grown hgrow5 (fun e=>by have:=(OW4.out.lt _ e.symm).1;omega));have CW5:=zH (CW4.out.grown hgrow5 (fun e=>by have:=(OW4.out.lt _ e.symm).1;omega));have NW5:=zH (NW4.out.grown hgrow5 (fun e=>by have:=(OL.out _ e.symm).2;omega));have OW5:Hid (w5.ownsRow (w.heap.size+2) 3 1 v' (j+1) ((tapeL s a n (j+1)).map (Value.int .i64))):=(by unfold Hid;rw [HS.out];simpa using hown5);have GW5:=zH (gbN GW4.out hgrow5 (fun g e=>by have:=(OW4.out.lt g e).1;omega));have b0:=BW5.out.cell 0;have b1:=BW5.out.cell 1;have f0:=BW5.out.frozen 0;have f1:=BW5.out.frozen 1;have n0:=NW5.out.cell 0;have n1:=NW5.out.cell 1;simp at b0 b1 n0 n1;clear hown5 hgrow5 OW4 BW4 CW4 GW4 NW4 OL))
   have CH:=zH (Za w.heap.size [.int .i64 s,.int .i64 ((a:Int)+(j:Int)+1)] 0 w5);have h1:=zH (Chg.own OW5.out CH.out (fun g hg (e:g=w.heap.size)=>by have:=(OW5.out.lt g hg).1;omega))
   have h2:Hid (Blk (Zm w5 w.heap.size 0 [.int .i64 s,.int .i64 ((a:Int)+(j:Int)+1)]) w.heap.size 41 #[.int .i64 s,.int .i64 ((a:Int)+((j+1:Nat):Int))]):=by
    have:=Zd BW5.out [.int .i64 s,.int .i64 ((a:Int)+(j:Int)+1)] rfl;rw [show (a:Int)+((j+1:Nat):Int)=(a:Int)+(j:Int)+1 by omega];exact this
   have h3:=zH (CW5.out.chg CH.out (by omega));have h4:=zH (Zu GW5.out CH.out (Nat.le_refl _))
   go_roundw
   case rel=>exact ⟨j+1,by omega,by go_num,h1.out,h2.out,h3.out,h4.out⟩
   case measure=>simp [intOf];omega
  ·have hjk:j=k:=by omega
   subst hjk;have f0:=hC.out.frozen 0;have f1:=hC.out.frozen 1;have c0:=hC.out.cell 0;have c1:=hC.out.cell 1;simp at c0 c1;have OE:=zH hO.out;go_wp2_with fail;refine Zg [.rd (.slice A4 j c4),.rd (.agg #[.int .i64 s,.int .i64 ((a:Int)+(j:Int))]),.rd (.slice A4 j c4),.ch] (fun _=>False) [⟨[],fun _ w'=>w'=wr.drew⟩,⟨[],fun _ w'=>Blk w' (w.heap.size+1) 41 #[.int .i64 s,.int .i64 ((a:Int)+(j:Int))]∧Chg (fun y=>y=w.heap.size+1) wr.drew w'⟩] (by kernel_rfl) (by kernel_rfl) (by kernel_rfl) 1 (by kernel_rfl) (by simp only [flOk,and_true]) rfl rfl ?_ ?_
   ·simp only [hopsK,hopK,Kd.next,and_true]
    refine ⟨?_, ?_, ?_, ?_⟩;rotate_left 3
    ·intro f w4 hG hI hd
     have hI:w4=wr.drew:=hI;subst hI
     (try simp at hd)
     have R4:=(hC.out).grow (gbD (gbR _ none));have rf0:=R4.frozen 0;have rg0:=(hC.out).frozen 0;have rb0:=R4.cell 0;have rf1:=R4.frozen 1;have rg1:=(hC.out).frozen 1;have rb1:=R4.cell 1;simp at rb0 rb1;have RS:=zH (Zd R4 [.int .i64 s,.int .i64 ((a:Int)+(j:Int))] rfl);clear R4
     first | simp [hd] | simp
     clear hd;go_wp2_with fail;exact ⟨rfl,.bool false,RS.out,Za (w.heap.size+1) [.int .i64 s,.int .i64 ((a:Int)+(j:Int))] 0 wr.drew⟩
    all_goals
     intro f w4 hG hd;have k0:=gbk (gbT (gbD (gbR _ none)) (chgF hG)) (b0);have k1:=gbk (gbT (gbD (gbR _ none)) (chgF hG)) (b1)
     (try simp at hd)
     (first | simp [hd] | simp)
     clear hd
     go_wp2_with (fail)
     exact ⟨rfl,rfl⟩
   intro f w5 hI hd;obtain ⟨hBS,hCH⟩:=hI;have hCH:=chgD hCH;simp [knowsC,dstAt] at hd;simp only [puts,dsts,Act.put,hd,zB,zC,zA,zD,zE];clear hd;have h4:=zH (Zu hG.out hCH (by omega));have h1:=zH (Chg.own OE.out hCH (fun g hg (e:g=w.heap.size+1)=>by have:=(OE.out.lt g hg).1;omega));go_wp2_with fail;refine Kn Tryz.results161 (by rfl) stTape (cs:=#[.int .i64 s,.int .i64 ((a:Int)+(j:Int))]) hBS (by rfl) (by rfl) ?_;exact ⟨_,by rw [show ((a+j:Nat):Int)=(a:Int)+(j:Int) by omega];rfl,ZE h1.out (by omega),h4.out⟩
end Go.Proofs.YthaadgdeadbhkaaGreat
namespace Go.Proofs.YthaadgdeadbhkaaGreat
set_option maxHeartbeats 400000 in
theorem Yn (p:Int) (w:World) (hp:p≤9223372036854775807) :
  Calls Tryz.prog 118 #[.int .i64 p] w fun e w'=>e=.returned (.bool (fieldB p))∧w=w':=by
 go_enter Tryz.func118,Tryz.ntmps118
 go_wp2_with fail
 go_loop [3] (fun i=>∃k:Nat,2≤k∧k≤102∧i=.int .i64 k∧Hid (∀d:Nat,2≤d→d<k→(d:Int)<p→p % (d:Int)≠0)) (fun i=>102 - (intOf i).toNat)
 case atStart=>exact ⟨2,by omega,by omega,rfl,fun d h1 h2=>by omega⟩
 case round =>
  obtain ⟨k,hk2,hk,rfl,hnd⟩:=hrel
  by_cases h1:(k:Int)<p
  ·by_cases h2:k≤101
   ·have d2:decide ((k:Int)≤101)=true:=by simp;omega
    by_cases h3:p % (k:Int)=0
    ·have h3':(p % (k:Int) == 0)=true:=by simp [h3]
     have H3:=zH h3;clear h3;go_wp2_with fail;go_ret;exact ⟨retB (field_no hk2 h1 H3.out).symm,rfl⟩
    ·have h3':(p % (k:Int) == 0)=false:=by simp [h3]
     have H3:=zH h3;clear h3;go_wp2_with fail
     go_round
     case rel=>exact ⟨k+1,by omega,by omega,by go_num,fun d hd2 hdk hdp=>by
      by_cases e:d=k
      ·subst e;exact H3.out
      ·exact hnd.out d hd2 (by omega) hdp⟩
     case measure=>simp [intOf];omega
   ·have d2:decide ((k:Int)≤101)=false:=by simp;omega
    have hbig:101<p:=by omega
    have d3:decide (p≤101)=false:=by simp;omega
    go_wp2
    go_ret;exact ⟨retB (Wb (.inr hbig)).symm,rfl⟩
  ·by_cases h2:2≤p∧p≤101
   ·obtain ⟨h2,h3⟩:=h2
    have d1:decide ((k:Int)<p)=false:=by simp;omega
    have d3:decide (p≤101)=true:=by simp;omega
    have d4:decide (2≤p)=true:=by simp;omega
    go_wp2
    go_ret;exact ⟨retB (field_yes h2 h3 fun d hd2 hdp=>hnd.out d hd2 (by omega) hdp).symm,rfl⟩
   ·have hs:fieldB p=false:=Wb (by omega)
    have HS:=zH hs;clear hs;have d1:decide ((k:Int)<p)=false:=by simp;omega
    by_cases h3:2≤p
    ·have d3:decide (p≤101)=false:=by simp;omega
     have d4:decide (2≤p)=true:=by simp;omega
     clear h2
     go_wp2
     go_ret;exact ⟨retB HS.out.symm,rfl⟩
    ·have d4:decide (2≤p)=false:=by simp;omega
     clear h2
     go_wp2
     go_ret;exact ⟨retB HS.out.symm,rfl⟩
set_option maxHeartbeats 400000 in
theorem Xl (p:Int) (w:World) (hp:p≤9223372036854775807) :
  Calls Tryz.prog 97 #[.int .i64 p] w fun e w'=>e=.returned (.bool (fieldB p))∧w=w':=by
 by_cases h2:p<2
 ·have hs:=zH (Wb (.inl h2))
  have d4:decide (2≤p)=false:=by simp;omega
  go_enter Tryz.func97,Tryz.ntmps97
  go_wp2
  go_ret;exact ⟨retB hs.out.symm,rfl⟩
 ·by_cases h3:101<p
  ·have hs:=zH (Wb (.inr h3))
   have d4:decide (2≤p)=true:=by simp;omega
   have d3:decide (p≤101)=false:=by simp;omega
   clear h2
   go_enter Tryz.func97,Tryz.ntmps97
   go_wp2
   go_ret;exact ⟨retB hs.out.symm,rfl⟩
  ·have d4:decide (2≤p)=true:=by simp;omega
   have d3:decide (p≤101)=true:=by simp;omega
   have h2':2≤p:=by omega
   have h3':p≤101:=by omega
   clear h2 h3
   go_enter Tryz.func97,Tryz.ntmps97
   go_wp2
   go_loop [3] (fun i=>∃k:Nat,2≤k∧k≤11∧i=.int .i64 k∧Hid (∀d:Nat,2≤d→d<k→p % (d:Int)≠0)) (fun i=>11 - (intOf i).toNat)
   case atStart=>exact ⟨2,by omega,by omega,rfl,fun d h1 h2=>by omega⟩
   case round =>
    obtain ⟨k,hk2,hk,rfl,hnd⟩:=hrel;obtain ⟨X,hX⟩:∃X:Nat,X=k*k:=⟨_,rfl⟩;have hXk:k+k≤X:=by rw [hX];have:=Nat.mul_le_mul_right k hk2;omega
    have hX1:X≤121:=by rw [hX];exact Nat.mul_le_mul hk hk
    have e1:(k:Int)*(k:Int)=(X:Int):=by rw [hX];simp
    have e2:wrap64 ((k:Int)*(k:Int))=(X:Int):=by rw [e1];exact wrap_small (by omega) (by omega)
    have HX:=zH hX;have HE:=zH e1;clear hX
    by_cases h1:(X:Int)≤p
    ·by_cases h4:p % (k:Int)=0
     ·have h4':(p % (k:Int) == 0)=true:=by simp [h4]
      have H4:=zH h4;clear h4
      go_wp2
      go_ret;exact ⟨retB (field_no hk2 (by omega) H4.out).symm,rfl⟩
     ·have h4':(p % (k:Int) == 0)=false:=by simp [h4]
      have H4:=zH h4
      have hk10:k≤10:=by
       rcases Nat.lt_or_ge 10 k with h | h
       ·have:k=11:=by omega
        subst this;have:=HX.out;omega
       ·exact h
      clear h4
      go_wp2
      go_round
      case rel=>exact ⟨k+1,by omega,by omega,by go_num,fun d hd2 hdk=>by
       by_cases e:d=k
       ·subst e;exact H4.out
       ·exact hnd.out d hd2 (by omega)⟩
      case measure=>simp [intOf];omega
    ·have h1':p<(X:Int):=by omega
     go_wp2
     go_ret;exact ⟨retB (field_sq h2' h3' (by omega) (by rw [HE.out];exact h1') hnd.out).symm,rfl⟩
def fb (p:Int):Nat:=if p≤2 then 1 else if p≤4 then 2 else if p≤8 then 3 else if p≤16 then 4 else if p≤32 then 5 else if p≤64 then 6 else 7
def elemB (p a:Int):Bool:=fieldB p&&decide (0≤a)&&decide (a≤p - 1)
theorem ZT {p a:Int} (h:elemB p a=true):fieldB p=true∧2≤p∧p≤101∧0≤a∧a<p:=by
  simp [elemB] at h;have:=ZC h.1.1;exact ⟨h.1.1,this.1,this.2,h.1.2,by omega⟩
theorem Yi {p a:Int} (h:fieldB p=true) (h0:0≤a) (h1:a<p):elemB p a=true:=by
  simp [elemB,h];omega
theorem ZN (p a:Int) (w:World) (hp:p≤9223372036854775807) :
    Calls Tryz.prog 96 #[.int .i64 p,.int .i64 a] w fun e w'=>e=.returned (.bool (elemB p a))∧w=w':=by
  cases hf:fieldB p with
  | false =>
    have HF:=zH hf;clear hf
    go_enter Tryz.func96,Tryz.ntmps96
    go_wp2_with fail;refine (Xl p _ hp).mono ?_;rintro e w1 ⟨rfl,rfl⟩;rw [HF.out];go_wp2_with fail;go_ret;exact ⟨retB (by simp [elemB,HF.out]),rfl⟩
  | true =>
    obtain ⟨h2,h3⟩:=ZC hf;have HF:=zH hf;clear hf
    by_cases h0:0≤a
    all_goals by_cases h1:a≤p - 1
    all_goals (try (exfalso;omega))
    all_goals
      have H0:=zH h0;have H1:=zH h1
      go_enter Tryz.func96,Tryz.ntmps96
      go_wp2_with fail;refine (Xl p _ hp).mono ?_;rintro e w1 ⟨rfl,rfl⟩;rw [HF.out]
      go_wp2
      go_ret;have h0':=H0.out;have h1':=H1.out;exact ⟨retB (by simp [elemB,HF.out,h0',h1'] <;> omega),rfl⟩
theorem YU (p a b:Int) (w:World) (hp:p≤9223372036854775807) :
    Calls Tryz.prog 152 #[.int .i64 p,.int .i64 a,.int .i64 b] w fun e w'=>e=.returned (.bool (elemB p a&&elemB p b))∧w=w':=by
  cases ha:elemB p a with
  | false =>
    have HA:=zH ha;clear ha
    go_enter Tryz.func152,Tryz.ntmps152
    go_wp2_with fail;refine (ZN p a _ hp).mono ?_;rintro e w1 ⟨rfl,rfl⟩;rw [HA.out];go_wp2_with fail;go_ret;exact ⟨rfl,rfl⟩
  | true =>
    have HA:=zH ha;clear ha
    go_enter Tryz.func152,Tryz.ntmps152
    go_wp2_with fail;refine (ZN p a _ hp).mono ?_;rintro e w1 ⟨rfl,rfl⟩;rw [HA.out];go_wp2_with fail;refine (ZN p b _ hp).mono ?_;rintro e w1 ⟨rfl,rfl⟩;go_wp2_with fail;go_ret;exact ⟨rfl,rfl⟩
def elemsB (p:Int) (zs:List Int):Bool:=fieldB p&&zs.all fun a=>decide (0≤a)&&decide (a≤p - 1)
theorem ZI {p:Int} {zs:List Int} (h:elemsB p zs=true):fieldB p=true∧2≤p∧p≤101∧∀a∈zs,0≤a∧a<p:=by
  simp only [elemsB,Bool.and_eq_true,List.all_eq_true,decide_eq_true_eq] at h;have:=ZC h.1;exact ⟨h.1,this.1,this.2,fun a ha=>by have:=h.2 a ha;omega⟩
theorem YZ {p:Int} {zs:List Int} (h:fieldB p=true) (h1:∀a∈zs,0≤a∧a<p):elemsB p zs=true:=by
  simp only [elemsB,Bool.and_eq_true,List.all_eq_true,decide_eq_true_eq];exact ⟨h,fun a ha=>by have:=h1 a ha;omega⟩
theorem XU (p a b:Int):elemsB p [a,b]=(elemB p a&&elemB p b):=by
  cases hf:fieldB p <;> simp [elemsB,elemB,hf,Bool.and_assoc]
theorem elemsB_out {p:Int} {zs:List Int} {k:Nat} (hk:k<zs.length) (h:¬(0≤zs.getD k 0∧zs.getD k 0≤p - 1)):elemsB p zs=false:=by
  cases hb:elemsB p zs with
  | false=>rfl
  | true =>
    have:=(ZI hb).2.2.2 zs[k] (List.getElem_mem hk);rw [getI zs k hk] at h;omega
theorem elemsB_all {p:Int} {zs:List Int} {n:Nat} (hf:fieldB p=true) (hl:zs.length=n) (h:∀j,j<n→0≤zs.getD j 0∧zs.getD j 0≤p - 1):elemsB p zs=true:=by
  refine YZ hf fun a ha => ?_;obtain ⟨j,hj,rfl⟩:=List.getElem_of_mem ha;have:=h j (by omega);rw [getI zs j hj] at this;omega
set_option maxHeartbeats 400000 in
theorem Zp (p:Int) (A:Option Addr) (n c:Nat) (zs:List Int) (w:World) (hp:p≤9223372036854775807) (hp0 : -9223372036854775808≤p) (hx:Ints w A n zs) (hn:n≤4611686018427387903) :
    Calls Tryz.prog 52 #[.int .i64 p,.slice A n c] w fun e w'=>e=.returned (.bool (elemsB p zs))∧w=w':=by
  have LX:=zH hx.len
  cases hf:fieldB p with
  | false =>
    have HF:=zH hf;have HE:Hid (elemsB p zs=false):=by simp [Hid,elemsB,hf]
    clear hf
    go_enter Tryz.func52,Tryz.ntmps52
    go_wp2_with fail
    go_loop [9] (fun i=>∃k:Nat,k≤n∧i=.int .i64 k) (fun i=>n - (intOf i).toNat)
    case atStart=>exact ⟨0,Nat.zero_le _,rfl⟩
    case round =>
      obtain ⟨k,hk,rfl⟩:=hrel
      by_cases hlt:k<n
      · obtain ⟨b,o,rfl,hb,c1⟩:=hx.cell hlt
        have i1:(k:Int)<(n:Int):=by omega
        generalize hz:zs.getD k 0=z at *;clear hz
        go_wp2_with go_in
        all_goals first
          | (go_round
             case rel=>exact ⟨k+1,by omega,by go_num⟩
             case measure=>simp [intOf];omega)
          | (go_ret
             exact ⟨retB HE.out.symm,rfl⟩)
      · have hkn:k=n:=by omega
        subst hkn;go_wp2_with fail;refine (Yn p _ hp).mono ?_;rintro e w1 ⟨rfl,rfl⟩;rw [HF.out];go_wp2_with fail;go_ret;exact ⟨retB HE.out.symm,rfl⟩
  | true =>
    obtain ⟨h2,h3⟩:=ZC hf;have HF:=zH hf;clear hf
    go_enter Tryz.func52,Tryz.ntmps52
    go_wp2_with fail
    go_loop [9] (fun i=>∃k:Nat,k≤n∧i=.int .i64 k∧Hid (∀j,j<k→0≤zs.getD j 0∧zs.getD j 0≤p - 1)) (fun i=>n - (intOf i).toNat)
    case atStart=>exact ⟨0,Nat.zero_le _,rfl,fun j hj=>by omega⟩
    case round =>
      obtain ⟨k,hk,rfl,hall⟩:=hrel
      by_cases hlt:k<n
      · obtain ⟨b,o,rfl,hb,c1⟩:=hx.cell hlt
        have i1:(k:Int)<(n:Int):=by omega
        by_cases hin:0≤zs.getD k 0∧zs.getD k 0≤p - 1
        · have HI:=zH hin
          obtain ⟨g0,g1⟩:=hin;generalize hz:zs.getD k 0=z at *;have HZ:=zH hz;clear hz;have d0:decide (0≤z)=true:=by simp;omega
          have d1:decide (z≤p - 1)=true:=by simp;omega
          go_wp2_with go_in
          go_round
          case rel=>exact ⟨k+1,by omega,by go_num,fun j hj=>by
            by_cases e:j=k
            · subst e;rw [HZ.out];exact HI.out
            · exact hall.out j (by omega)⟩
          case measure=>simp [intOf];omega
        · have HI:=zH hin
          generalize hz:zs.getD k 0=z at *;have HZ:=zH hz;clear hz
          by_cases g0:0≤z
          · have d0:decide (0≤z)=true:=by simp;omega
            have d1:decide (z≤p - 1)=false:=by simp;omega
            clear hin
            go_wp2_with go_in
            go_ret;have:=LX.out;exact ⟨retB (elemsB_out (k:=k) (by omega) (by rw [HZ.out];exact HI.out)).symm,rfl⟩
          · have d0:decide (0≤z)=false:=by simp;omega
            clear hin
            go_wp2_with go_in
            go_ret;have:=LX.out;exact ⟨retB (elemsB_out (k:=k) (by omega) (by rw [HZ.out];exact HI.out)).symm,rfl⟩
      · have hkn:k=n:=by omega
        subst hkn;go_wp2_with fail;refine (Yn p _ hp).mono ?_;rintro e w1 ⟨rfl,rfl⟩;rw [HF.out];go_wp2_with fail;go_ret;exact ⟨retB (elemsB_all HF.out LX.out hall.out).symm,rfl⟩
set_option maxHeartbeats 400000 in
theorem ZQ (p:Int) (A:Option Addr) (n c:Nat) (zs:List Int) (w:World) (hp:p≤9223372036854775807) (hx:Ints w A n zs) (hn:n≤4611686018427387903) :
    Calls Tryz.prog 42 #[.int .i64 p,.slice A n c] w fun e w'=>e=.returned (.bool (elemsB p zs))∧w=w':=by
  have LX:=zH hx.len
  go_enter Tryz.func42,Tryz.ntmps42
  go_wp2_with fail
  go_loop [5] (fun i=>∃k:Nat,k≤n∧i=.int .i64 k∧Hid (∀j,j<k→elemB p (zs.getD j 0)=true)) (fun i=>n - (intOf i).toNat)
  case atStart=>exact ⟨0,Nat.zero_le _,rfl,fun j hj=>by omega⟩
  case round =>
    obtain ⟨k,hk,rfl,hall⟩:=hrel
    by_cases hlt:k<n
    · obtain ⟨b,o,rfl,hb,c1⟩:=hx.cell hlt
      have i1:(k:Int)<(n:Int):=by omega
      generalize hz:zs.getD k 0=z at *;have HZ:=zH hz;clear hz;go_wp2_with fail;refine (ZN p z _ hp).mono ?_;rintro e w1 ⟨rfl,rfl⟩
      cases he:elemB p z with
      | true =>
        have HE:=zH he;clear he;go_wp2_with fail
        go_round
        case rel=>exact ⟨k+1,by omega,by go_num,fun j hj=>by
          by_cases e:j=k
          · subst e;rw [HZ.out];exact HE.out
          · exact hall.out j (by omega)⟩
        case measure=>simp [intOf];omega
      | false =>
        have HE:=zH he;clear he;go_wp2_with fail;go_ret;have:=LX.out;refine ⟨retB ?_,rfl⟩
        cases hb:elemsB p zs with
        | false=>rfl
        | true =>
          have h:=ZI hb;have h1:=HE.out;have h2:=h.2.2.2 zs[k] (List.getElem_mem (by omega));rw [← getI zs k (by omega),HZ.out] at h2;rw [Yi h.1 h2.1 h2.2] at h1
          cases h1
    · have hkn:k=n:=by omega
      subst hkn;go_wp2_with fail;refine (Xl p _ hp).mono ?_;rintro e w1 ⟨rfl,rfl⟩;go_wp2_with fail;go_ret;refine ⟨retB ?_,rfl⟩
      cases hf:fieldB p with
      | false=>simp [elemsB,hf]
      | true =>
        refine (elemsB_all hf LX.out fun j hj => ?_).symm;have:=ZT (hall.out j hj);omega
theorem ints2 (w:World) (t:TypeId) (a b:Int):Ints (w.alloc (.cells #[.int .i64 a,.int .i64 b] t)) (some ⟨w.heap.size,0,none⟩) 2 [a,b]:=by
  refine ⟨by simp,fun _=>⟨w.heap.size,0,rfl,by simp,fun j hj => ?_⟩⟩;rw [cell_of_row _ _ _ _ t (0,0) (heap_alloc_new w _)]
  rcases (show j=0∨j=1 by omega) with rfl | rfl <;> rfl
theorem Jv {a b m:Int} (ha:0≤a) (hb:0≤b) (ha':a≤m) (hb':b≤m):0≤a*b∧a*b≤m*m :=
 ⟨Int.mul_nonneg ha hb,Int.mul_le_mul ha' hb' hb (by omega)⟩
theorem specFAdd_yes (p a b:Int) (w:World) (ha:elemB p a=true) (hb:elemB p b=true) :
  Calls Tryz.prog 102 #[.int .i64 p,.int .i64 a,.int .i64 b] w fun e w'=>e=.returned (.int .i64 ((a+b) % p))∧w=w':=by
 obtain ⟨_,p2,p101,a0,a1⟩:=ZT ha;obtain ⟨_,_,_,b0,b1⟩:=ZT hb;have HA:=zH ha;have HB:=zH hb;clear ha hb
 go_enter Tryz.func102,Tryz.ntmps102
 go_wp2_with fail;refine (YU p a b _ (by omega)).mono ?_;rintro e w1 ⟨rfl,rfl⟩;rw [HA.out,HB.out,Bool.and_self];go_wp2_with fail;go_ret;exact ⟨rfl,rfl⟩
structure BytesIn (w:World) (A:Option Addr) (n:Nat) (bs:List Int):Prop where
 bytes:Rd w 1 A n (bs.map (Value.int .u8))
 rng:∀b∈bs,0≤b∧b≤255
 small:n≤1048576
theorem BytesIn.grow {w w':World} {A:Option Addr} {n:Nat} {bs:List Int} (h:BytesIn w A n bs) (hg:w.grownBy w' none):BytesIn w' A n bs:=⟨h.bytes.grow hg,h.rng,h.small⟩
theorem BytesIn.off {w:World} {A:Option Addr} {n:Nat} {bs:List Int} (h:BytesIn w A n bs) {r:Option Nat} (hg:∀g,r=some g→w.heap.size≤g):0<n→Off A r:=fun hn a ha e=>by
 obtain ⟨b,o,rfl,hb,_⟩:=h.bytes.2 hn;injection ha with ha;subst ha;have:=hg b e.symm;omega
def Places (qs:List Int):Prop:=qs.length=12∧∀q∈qs,0≤q∧q<10000
theorem Places.at_ {qs:List Int} (h:Places qs) (k:Nat) (hk:k<12):0≤qs.getD k 0∧qs.getD k 0<10000:=by
 obtain ⟨hl,hq⟩:=h;rw [getI qs k (by omega)];exact hq _ (List.getElem_mem _)
def nine:List Int:=[2,3,5,7,11,13,31,97,101]
theorem VH (zs:List Int) (k:Nat) (h:k<zs.length):zs.take (k+1)=zs.take k ++ [zs.getD k 0]:=by
 rw [List.take_succ_eq_append_getElem h,getI zs k h]
theorem fsub_i {p a b:Int}:(a - b+p) % p=(a - b) % p:=by rw [Int.add_emod_right]
theorem fsub_s {p a b:Int}:(a+p - b) % p=(a - b) % p:=by rw [show a+p - b=a - b+p by omega,Int.add_emod_right]
set_option maxHeartbeats 400000 in
theorem VI (p a b:Int) (w:World) (ha:elemB p a=true) (hb:elemB p b=true) :
  Calls Tryz.prog 102 #[.int .i64 p,.int .i64 a,.int .i64 b] w fun e w'=>e=.returned (.int .i64 ((a+b) % p))∧w.grownBy w' none:=by
 obtain ⟨_,p2,p101,a0,a1⟩:=ZT ha;obtain ⟨_,_,_,b0,b1⟩:=ZT hb;have HA:=zH ha;have HB:=zH hb;clear ha hb
 go_enter Tryz.func102,Tryz.ntmps102
 go_wp2_with fail;refine (YU p a b _ (by omega)).mono ?_;rintro e w1 ⟨rfl,rfl⟩;rw [HA.out,HB.out,Bool.and_self];go_wp2_with fail;go_ret;exact ⟨rfl,gbR _ _⟩
set_option maxHeartbeats 400000 in
theorem VJ (p a b:Int) (w:World) (ha:elemB p a=true) (hb:elemB p b=true) :
  Calls Tryz.prog 68 #[.int .i64 p,.int .i64 a,.int .i64 b] w fun e w'=>e=.returned (.int .i64 ((a+b) % p))∧w.grownBy w' none:=by
 obtain ⟨_,p2,p101,a0,a1⟩:=ZT ha;obtain ⟨_,_,_,b0,b1⟩:=ZT hb;have HE:Hid (elemsB p [a,b]=true):=by unfold Hid;rw [XU,ha,hb];rfl
 clear ha hb
 go_enter Tryz.func68,Tryz.ntmps68
 go_wp2_with fail;refine (Zp p _ 2 2 [a,b] _ (by omega) (by omega) (ints2 w 3 a b) (by omega)).mono ?_;rintro e w1 ⟨rfl,rfl⟩;rw [HE.out];go_wp2_with fail;go_ret;exact ⟨rfl,gbA (gbR _ _) _⟩
set_option maxHeartbeats 400000 in
theorem WD (p a b:Int) (w:World) (ha:elemB p a=true) (hb:elemB p b=true) :
  Calls Tryz.prog 142 #[.int .i64 p,.int .i64 a,.int .i64 b] w fun e w'=>e=.returned (.int .i64 ((a - b) % p))∧w.grownBy w' none:=by
 obtain ⟨_,p2,p101,a0,a1⟩:=ZT ha;obtain ⟨_,_,_,b0,b1⟩:=ZT hb;have HA:=zH ha;have HB:=zH hb;clear ha hb;rw [← fsub_s]
 go_enter Tryz.func142,Tryz.ntmps142
 go_wp2_with fail;refine (YU p a b _ (by omega)).mono ?_;rintro e w1 ⟨rfl,rfl⟩;rw [HA.out,HB.out,Bool.and_self];go_wp2_with fail;go_ret;exact ⟨rfl,gbR _ _⟩
set_option maxHeartbeats 400000 in
theorem Qc (p a b:Int) (w:World) (ha:elemB p a=true) (hb:elemB p b=true) :
  Calls Tryz.prog 133 #[.int .i64 p,.int .i64 a,.int .i64 b] w fun e w'=>e=.returned (.int .i64 ((a - b) % p))∧w.grownBy w' none:=by
 obtain ⟨_,p2,p101,a0,a1⟩:=ZT ha;obtain ⟨_,_,_,b0,b1⟩:=ZT hb;have HE:Hid (elemsB p [a,b]=true):=by unfold Hid;rw [XU,ha,hb];rfl
 clear ha hb;rw [← fsub_i]
 go_enter Tryz.func133,Tryz.ntmps133
 go_wp2_with fail;refine (Zp p _ 2 2 [a,b] _ (by omega) (by omega) (ints2 w 3 a b) (by omega)).mono ?_;rintro e w1 ⟨rfl,rfl⟩;rw [HE.out];go_wp2_with fail;go_ret;exact ⟨rfl,gbA (gbR _ _) _⟩
set_option maxHeartbeats 400000 in
theorem WE (p a b:Int) (w:World) (ha:elemB p a=true) (hb:elemB p b=true) :
  Calls Tryz.prog 100 #[.int .i64 p,.int .i64 a,.int .i64 b] w fun e w'=>e=.returned (.int .i64 ((a*b) % p))∧w.grownBy w' none:=by
 obtain ⟨_,p2,p101,a0,a1⟩:=ZT ha;obtain ⟨_,_,_,b0,b1⟩:=ZT hb;have HA:=zH ha;have HB:=zH hb;clear ha hb;obtain ⟨m0,m1⟩:=Jv a0 b0 (show a≤101 by omega) (show b≤101 by omega)
 go_enter Tryz.func100,Tryz.ntmps100
 go_wp2_with fail;refine (YU p a b _ (by omega)).mono ?_;rintro e w1 ⟨rfl,rfl⟩;rw [HA.out,HB.out,Bool.and_self];go_wp2_with fail;go_ret;exact ⟨rfl,gbR _ _⟩
set_option maxHeartbeats 400000 in
theorem WG (p a b:Int) (w:World) (ha:elemB p a=true) (hb:elemB p b=true) :
  Calls Tryz.prog 121 #[.int .i64 p,.int .i64 a,.int .i64 b] w fun e w'=>e=.returned (.int .i64 ((a*b) % p))∧w.grownBy w' none:=by
 obtain ⟨_,p2,p101,a0,a1⟩:=ZT ha;obtain ⟨_,_,_,b0,b1⟩:=ZT hb;have HE:Hid (elemsB p [a,b]=true):=by unfold Hid;rw [XU,ha,hb];rfl
 clear ha hb;obtain ⟨m0,m1⟩:=Jv a0 b0 (show a≤101 by omega) (show b≤101 by omega)
 go_enter Tryz.func121,Tryz.ntmps121
 go_wp2_with fail;refine (Zp p _ 2 2 [a,b] _ (by omega) (by omega) (ints2 w 3 a b) (by omega)).mono ?_;rintro e w1 ⟨rfl,rfl⟩;rw [HE.out];go_wp2_with fail;go_ret;exact ⟨rfl,gbA (gbR _ _) _⟩
def fsum (p:Int) (l:List Int):Int:=l.sum % p
theorem fsum_step {p:Int} {l:List Int} {k:Nat} (hk:k<l.length):(fsum p (l.take k)+l.getD k 0) % p=fsum p (l.take (k+1)):=by
 unfold fsum;rw [VH l k hk,List.sum_append,Int.emod_add_emod];simp
theorem UG {p:Int} (hp:2≤p) (l:List Int):0≤fsum p l∧fsum p l<p:=⟨Int.emod_nonneg _ (by omega),Int.emod_lt_of_pos _ (by omega)⟩
theorem Yl {p:Int} (hf:fieldB p=true) (l:List Int):elemB p (fsum p l)=true:=by
 obtain ⟨h1,h2⟩:=ZC hf;obtain ⟨h3,h4⟩:=UG h1 l;exact Yi hf h3 h4
theorem Yg {p:Int} (hf:fieldB p=true) (x:Int):elemB p (x % p)=true:=by
 obtain ⟨h1,h2⟩:=ZC hf;exact Yi hf (Int.emod_nonneg _ (by omega)) (Int.emod_lt_of_pos _ (by omega))
set_option maxHeartbeats 400000 in
theorem XV (p:Int) (A:Option Addr) (n c:Nat) (zs:List Int) (w:World) (h:elemsB p zs=true) (hx:Ints w A n zs) (hn:n≤4611686018427387903) :
  Calls Tryz.prog 143 #[.int .i64 p,.slice A n c] w fun e w'=>e=.returned (.int .i64 (fsum p zs))∧w=w':=by
 obtain ⟨hf,p2,p101,hz⟩:=ZI h;have HE:=zH h;have LX:=zH hx.len;have HX:=zH hx;clear h hf
 go_enter Tryz.func143,Tryz.ntmps143
 go_wp2_with fail;refine (ZQ p A n c zs _ (by omega) HX.out hn).mono ?_;rintro e w1 ⟨rfl,rfl⟩;rw [HE.out];go_wp2_with fail
 go_loop [5,6] (fun z i=>∃k:Nat,k≤n∧i=.int .i64 k∧z=.int .i64 (fsum p (zs.take k))) (fun _ i=>n - (intOf i).toNat)
 case atStart=>exact ⟨0,Nat.zero_le _,rfl,by simp [fsum]⟩
 case round =>
  obtain ⟨k,hk,rfl,rfl⟩:=hrel;obtain ⟨s0,s1⟩:=UG p2 (zs.take k)
  by_cases hlt:k<n
  ·obtain ⟨b,o,rfl,hb,hc⟩:=HX.out.at_ (by omega)
   have c0:=hc k hlt;have i1:(k:Int)<(n:Int):=by omega
   have HS:=zH (fsum_step (p:=p) (l:=zs) (k:=k) (by have:=LX.out;omega));have hzk:=hz (zs.getD k 0) (by rw [getI zs k (by have:=LX.out;omega)];exact List.getElem_mem ..);obtain ⟨z0,z1⟩:=hzk;generalize fsum p (zs.take k)=s at *;generalize zs.getD k 0=y at *;clear hc hz;go_wp2_with fail
   go_round
   case rel=>exact ⟨k+1,by omega,by go_num,by rw [← HS.out]⟩
   case measure=>simp [intOf];omega
  ·have hkn:k=n:=by omega
   subst hkn;have HT:Hid (fsum p (zs.take k)=fsum p zs):=by unfold Hid;rw [List.take_of_length_le (by have:=LX.out;omega)]
   generalize fsum p (zs.take k)=s at *;go_wp2_with fail;go_ret;exact ⟨retI HT.out,rfl⟩
set_option maxHeartbeats 400000 in
theorem WH (p:Int) (A:Option Addr) (n c:Nat) (zs:List Int) (w:World) (h:elemsB p zs=true) (hx:Ints w A n zs) (hn:n≤4611686018427387903) :
  Calls Tryz.prog 135 #[.int .i64 p,.slice A n c] w fun e w'=>e=.returned (.int .i64 (fsum p zs))∧w=w':=by
 obtain ⟨hf,p2,p101,hz⟩:=ZI h;have HE:=zH h;have LX:=zH hx.len;have HX:=zH hx;clear h hf
 go_enter Tryz.func135,Tryz.ntmps135
 go_wp2_with fail;refine (Zp p A n c zs _ (by omega) (by omega) HX.out hn).mono ?_;rintro e w1 ⟨rfl,rfl⟩;rw [HE.out];go_wp2_with fail
 go_loop [5,14] (fun z i=>∃k:Nat,k≤n∧i=.int .i64 k∧z=.int .i64 (fsum p (zs.take k))) (fun _ i=>n - (intOf i).toNat)
 case atStart=>exact ⟨0,Nat.zero_le _,rfl,by simp [fsum]⟩
 case round =>
  obtain ⟨k,hk,rfl,rfl⟩:=hrel;obtain ⟨s0,s1⟩:=UG p2 (zs.take k)
  by_cases hlt:k<n
  ·obtain ⟨b,o,rfl,hb,hc⟩:=HX.out.at_ (by omega)
   have c0:=hc k hlt;have i1:(k:Int)<(n:Int):=by omega
   have HS:=zH (fsum_step (p:=p) (l:=zs) (k:=k) (by have:=LX.out;omega));have hzk:=hz (zs.getD k 0) (by rw [getI zs k (by have:=LX.out;omega)];exact List.getElem_mem ..);obtain ⟨z0,z1⟩:=hzk;generalize fsum p (zs.take k)=s at *;generalize zs.getD k 0=y at *;clear hc hz;go_wp2_with fail
   go_round
   case rel=>exact ⟨k+1,by omega,by go_num,by rw [← HS.out]⟩
   case measure=>simp [intOf];omega
  ·have hkn:k=n:=by omega
   subst hkn;have HT:Hid (fsum p (zs.take k)=fsum p zs):=by unfold Hid;rw [List.take_of_length_le (by have:=LX.out;omega)]
   generalize fsum p (zs.take k)=s at *;go_wp2_with fail;go_ret;exact ⟨retI HT.out,rfl⟩
end Go.Proofs.YthaadgdeadbhkaaGreat
