/-
 TapeBelow,TapeFork: what they compute.
-/
import Derived.Test.YthaadgdeadbhkaaGreatMgFnExactEngineRun5
open Go.RowKit
set_option linter.unusedVariables false
set_option linter.unusedSimpArgs false
namespace Go.Proofs.YthaadgdeadbhkaaGreat
attribute [local simp] depsC dstAt kAt bindE List.filter_cons bd_data bd_chain bd_guard bd_phase bd_text bd_gc puts dsts Act.put
def belN (s a n:Nat):Nat:=keyN s 7 a / 256 % n
theorem belN_lt {s a n:Nat} (h:0<n):belN s a n<n:=Nat.mod_lt _ h
set_option maxHeartbeats 400000 in
theorem specTapeBelow_yes (s a n:Nat) (w:World) (hs:s<4294967296) (ha:a<1000000) (hn1:1≤n) (hn:n≤65536) :
  Calls Tryz.prog 99 #[.agg #[.int .i64 s,.int .i64 a],.int .i64 n] w fun e w'=>e=.returned (.tuple #[.int .i64 (belN s a n),.agg #[.int .i64 s,.int .i64 ((a:Int)+1)]])∧w.grownBy w' none:=by
 have q1:=zH (inQ_yes (z:=(n:Int)) (a:=1) (b:=65536) (by omega) (by omega));have d1:=zH (tape_yes hs (show a≤1000000 by omega));have d3:((a:Int) == 1000000)=false:=by simp;omega
 have m:=keyN_lt (k:=s) (a:=7) (b:=a) hs (by omega) (by omega);have HB:Hid (belN s a n=keyN s 7 a / 256 % n):=rfl;have n0:¬(n:Int)=0:=by omega
 have n1:¬n=0:=by omega
 go_enter Tryz.func99,Tryz.ntmps99
 have B0:=zH ((Blk.new w 41 #[.int .i64 s,.int .i64 a]).grow (gbA (gbR _ _) (.cells #[.int .i64 0,.int .i64 0] 41)));have B1:=zH (Blk.new' (w.alloc (.cells #[.int .i64 s,.int .i64 a] 41)) 41 #[.int .i64 0,.int .i64 0] (w.heap.size+1) (by simp));have G1:=zH (gbA (gbA (gbR w none) (.cells #[.int .i64 s,.int .i64 a] 41)) (.cells #[.int .i64 0,.int .i64 0] 41));go_wp2_with fail;refine (specInq_c n 1 65536 _).mono ?_;rintro e w1 ⟨rfl,rfl⟩;rw [q1.out];go_wp2_with fail;refine (specTapeWord_yes s a _ hs ha).mono ?_;rintro e w2 ⟨rfl,g2⟩;have z2:=g2.size;have B2:=zH (B1.out.grow g2);have G2:=zH (gbT G1.out g2);have L2:=B2.out.lt;clear g2 B0 B1
 try clear c0 c1
 go_wp2_with fail;obtain ⟨w3,hw3⟩:∃x:World,w2.alloc (.cells #[.int .i64 s,.int .i64 ((a:Int)+1)] 41)=x:=⟨_,rfl⟩;have B3:Hid (Blk w3 (w.heap.size+1) 41 #[.int .i64 0,.int .i64 0]):=by rw [← hw3];exact B2.out.grow (gbA (gbR _ _) _)
 have N3:Hid (Blk w3 w2.heap.size 41 #[.int .i64 s,.int .i64 ((a:Int)+1)]):=by rw [← hw3];exact Blk.new _ _ _
 have G3:Hid (w.grownBy w3 none):=by rw [← hw3];exact gbA G2.out _
 rw [hw3];clear hw3;have c0:=N3.out.cell 0;have c1:=N3.out.cell 1;simp at c0 c1;obtain ⟨kn,hkn⟩:∃x,keyN s 7 a=x:=⟨_,rfl⟩;rw [hkn] at HB m ⊢;have HB2:Hid (((kn:Int) / 256 % (n:Int))=((kn / 256 % n:Nat):Int)):=by unfold Hid;simp
 clear hkn;refine region_chain [.rd (.int .i64 kn),.rd (.int .i64 ((kn:Int) / 256)),.rd (.int .i64 n),.rd (.int .i64 ((kn:Int) / 256 % (n:Int))),.rd (.agg #[.int .i64 s,.int .i64 ((a:Int)+1)]),.rd (.int .i64 ((kn:Int) / 256 % (n:Int))),.ch] (fun _=>False) [⟨[],fun _ w'=>w'=w3.drew⟩,⟨[],fun _ w'=>Blk w' (w.heap.size+1) 41 #[.int .i64 s,.int .i64 ((a:Int)+1)]∧Chg (fun y=>y=w.heap.size+1) w3.drew w'⟩] (by kernel_rfl) (by kernel_rfl) (by kernel_rfl) 1 (by kernel_rfl) (by simp only [flOk,and_true]) rfl rfl ?_ ?_
 ·simp only [hopsK,hopK,Kd.next,and_true]
  refine ⟨?_, ?_, ?_, ?_, ?_, ?_, ?_⟩;rotate_left 6
  ·intro f w4 hG hI hd
   have hI:w4=w3.drew:=hI;subst hI
   (try simp at hd)
   have R4:=(B3.out).grow (gbD (gbR _ none));have rf0:=R4.frozen 0;have rg0:=(B3.out).frozen 0;have rb0:=R4.cell 0;have rf1:=R4.frozen 1;have rg1:=(B3.out).frozen 1;have rb1:=R4.cell 1;simp at rb0 rb1;have RS:=zH (blk_setCells R4 [.int .i64 s,.int .i64 ((a:Int)+1)] rfl);clear R4
   first | simp [hd] | simp
   clear hd;go_wp2_with fail;exact ⟨rfl,.bool false,RS.out,chg_setCells (w.heap.size+1) [.int .i64 s,.int .i64 ((a:Int)+1)] 0 w3.drew⟩
  all_goals
   intro f w4 hG hd;have k0:=gbk (gbT (gbD (gbR _ none)) (chgF hG)) (c0);have k1:=gbk (gbT (gbD (gbR _ none)) (chgF hG)) (c1)
   (try simp at hd)
   (first | simp [hd] | simp)
   clear hd
   go_wp2_with (fail)
   exact ⟨rfl,rfl⟩
 intro f w5 hI hd;obtain ⟨hBS,hCH⟩:=hI;have hCH:=chgD hCH;simp [knowsC,dstAt] at hd;obtain ⟨h0_,h1_,h2_,h3_,h4_,h5_⟩:=hd;simp only [puts,dsts,Act.put,h0_,h1_,h2_,h3_,h4_,h5_,List.filterMap_cons,List.filterMap_nil,List.setIfInBounds_toArray,List.set_cons_zero,List.set_cons_succ];clear h0_ h1_ h2_ h3_ h4_ h5_;go_wp2_with fail;refine ret_tc Tryz.results99 (by rfl) stTape (cs:=#[.int .i64 s,.int .i64 ((a:Int)+1)]) hBS (by rfl) (by rfl) ?_;refine ⟨?_,gb_chg G3.out hCH (by omega)⟩;simp only [HB.out,← HB2.out];rfl
set_option maxHeartbeats 400000 in
theorem specTapeFork_yes (s a n:Nat) (w:World) (hs:s<4294967296) (ha:a≤1000000) (hn:n≤1000000) :
  Calls Tryz.prog 40 #[.agg #[.int .i64 s,.int .i64 a],.int .i64 n] w fun e w'=>e=.returned (.agg #[.int .i64 (keyN s 9 n),.int .i64 0])∧w.grownBy w' none:=by
 obtain ⟨kn,hkn⟩:∃x,keyN s 9 n=x:=⟨_,rfl⟩;rw [hkn];have q1:=zH (inQ_yes (z:=(n:Int)) (a:=0) (b:=1000000) (by omega) (by omega));have d1:=zH (tape_yes hs ha)
 go_enter Tryz.func40,Tryz.ntmps40
 have B0:=zH ((Blk.new w 41 #[.int .i64 s,.int .i64 a]).grow (gbA (gbR _ _) (.cells #[.int .i64 0,.int .i64 0] 41)));have B1:=zH (Blk.new' (w.alloc (.cells #[.int .i64 s,.int .i64 a] 41)) 41 #[.int .i64 0,.int .i64 0] (w.heap.size+1) (by simp));have G1:=zH (gbA (gbA (gbR w none) (.cells #[.int .i64 s,.int .i64 a] 41)) (.cells #[.int .i64 0,.int .i64 0] 41));go_wp2_with fail;refine (specTapeOk_c s a _).mono ?_;rintro e w1 ⟨rfl,g1⟩;rw [d1.out];have B0:=zH (B0.out.grow g1);have B1:=zH (B1.out.grow g1);have G1:=zH (gbT G1.out g1);clear g1;have c0:=B0.out.cell 0;have c1:=B0.out.cell 1;have b0:=B1.out.cell 0;have b1:=B1.out.cell 1;have f0:=B1.out.frozen 0;have f1:=B1.out.frozen 1;simp at c0 c1 b0 b1;go_wp2_with fail;refine (specInq_c n 0 1000000 _).mono ?_;rintro e w2 ⟨rfl,rfl⟩;rw [q1.out];go_wp2_with fail;refine (specKeyed_yes s 9 n _ hs (by omega) (by omega)).mono ?_;rintro e w2 ⟨rfl,rfl⟩;rw [hkn];have RS:=zH (blk_setCells B1.out [.int .i64 (kn),.int .i64 0] rfl);have CH:=zH (chg_setCells (w.heap.size+1) [.int .i64 (kn),.int .i64 0] 0 w1);go_wp2_with fail;refine ret_c Tryz.results40 (by rfl) stTape (cs:=#[.int .i64 (kn),.int .i64 0]) RS.out (by rfl) (by rfl) ?_;exact ⟨rfl,gb_chg G1.out CH.out (by omega)⟩
set_option maxHeartbeats 400000 in
theorem implTapeBelow_yes (s a n:Nat) (w:World) (hs:s<4294967296) (ha:a<1000000) (hn1:1≤n) (hn:n≤65536) :
  Calls Tryz.prog 120 #[.agg #[.int .i64 s,.int .i64 a],.int .i64 n] w fun e w'=>e=.returned (.tuple #[.int .i64 (belN s a n),.agg #[.int .i64 s,.int .i64 ((a:Int)+1)]])∧w.grownBy w' none:=by
 have q1:=zH (inQ_yes (z:=(n:Int)) (a:=1) (b:=65536) (by omega) (by omega));have d1:=zH (tape_yes hs (show a≤1000000 by omega));have d3:((a:Int) == 1000000)=false:=by simp;omega
 have m:=keyN_lt (k:=s) (a:=7) (b:=a) hs (by omega) (by omega);have HB:Hid (belN s a n=keyN s 7 a / 256 % n):=rfl;have n0:¬(n:Int)=0:=by omega
 have n1:¬n=0:=by omega
 go_enter Tryz.func120,Tryz.ntmps120
 have B0:=zH ((Blk.new w 41 #[.int .i64 s,.int .i64 a]).grow (gbA (gbR _ _) (.cells #[.int .i64 0,.int .i64 0] 41)));have B1:=zH (Blk.new' (w.alloc (.cells #[.int .i64 s,.int .i64 a] 41)) 41 #[.int .i64 0,.int .i64 0] (w.heap.size+1) (by simp));have G1:=zH (gbA (gbA (gbR w none) (.cells #[.int .i64 s,.int .i64 a] 41)) (.cells #[.int .i64 0,.int .i64 0] 41));go_wp2_with fail;refine (implInq_c n 1 65536 _).mono ?_;rintro e w1 ⟨rfl,rfl⟩;rw [q1.out];go_wp2_with fail;refine (implTapeOk_c s a _).mono ?_;rintro e w1 ⟨rfl,g1⟩;rw [d1.out];have B0:=zH (B0.out.grow g1);have B1:=zH (B1.out.grow g1);have G1:=zH (gbT G1.out g1);clear g1;have c0:=B0.out.cell 0;have c1:=B0.out.cell 1;simp at c0 c1;go_wp2_with fail;refine (implTapeWord_yes s a _ hs ha).mono ?_;rintro e w2 ⟨rfl,g2⟩;have z2:=g2.size;have B2:=zH (B1.out.grow g2);have G2:=zH (gbT G1.out g2);have L2:=B2.out.lt;clear g2 B0 B1
 try clear c0 c1
 go_wp2_with fail;obtain ⟨w3,hw3⟩:∃x:World,w2.alloc (.cells #[.int .i64 s,.int .i64 ((a:Int)+1)] 41)=x:=⟨_,rfl⟩;have B3:Hid (Blk w3 (w.heap.size+1) 41 #[.int .i64 0,.int .i64 0]):=by rw [← hw3];exact B2.out.grow (gbA (gbR _ _) _)
 have N3:Hid (Blk w3 w2.heap.size 41 #[.int .i64 s,.int .i64 ((a:Int)+1)]):=by rw [← hw3];exact Blk.new _ _ _
 have G3:Hid (w.grownBy w3 none):=by rw [← hw3];exact gbA G2.out _
 rw [hw3];clear hw3;have c0:=N3.out.cell 0;have c1:=N3.out.cell 1;simp at c0 c1;obtain ⟨kn,hkn⟩:∃x,keyN s 7 a=x:=⟨_,rfl⟩;rw [hkn] at HB m ⊢;have HB2:Hid (((kn:Int) / 256 % (n:Int))=((kn / 256 % n:Nat):Int)):=by unfold Hid;simp
 clear hkn;refine region_chain [.rd (.int .i64 kn),.rd (.int .i64 ((kn:Int) / 256)),.rd (.int .i64 n),.rd (.int .i64 ((kn:Int) / 256 % (n:Int))),.rd (.agg #[.int .i64 s,.int .i64 ((a:Int)+1)]),.rd (.int .i64 ((kn:Int) / 256 % (n:Int))),.ch] (fun _=>False) [⟨[],fun _ w'=>w'=w3.drew⟩,⟨[],fun _ w'=>Blk w' (w.heap.size+1) 41 #[.int .i64 s,.int .i64 ((a:Int)+1)]∧Chg (fun y=>y=w.heap.size+1) w3.drew w'⟩] (by kernel_rfl) (by kernel_rfl) (by kernel_rfl) 1 (by kernel_rfl) (by simp only [flOk,and_true]) rfl rfl ?_ ?_
 ·simp only [hopsK,hopK,Kd.next,and_true]
  refine ⟨?_, ?_, ?_, ?_, ?_, ?_, ?_⟩;rotate_left 6
  ·intro f w4 hG hI hd
   have hI:w4=w3.drew:=hI;subst hI
   (try simp at hd)
   have R4:=(B3.out).grow (gbD (gbR _ none));have rf0:=R4.frozen 0;have rg0:=(B3.out).frozen 0;have rb0:=R4.cell 0;have rf1:=R4.frozen 1;have rg1:=(B3.out).frozen 1;have rb1:=R4.cell 1;simp at rb0 rb1;have RS:=zH (blk_setCells R4 [.int .i64 s,.int .i64 ((a:Int)+1)] rfl);clear R4
   first | simp [hd] | simp
   clear hd;go_wp2_with fail;exact ⟨rfl,.bool false,RS.out,chg_setCells (w.heap.size+1) [.int .i64 s,.int .i64 ((a:Int)+1)] 0 w3.drew⟩
  all_goals
   intro f w4 hG hd;have k0:=gbk (gbT (gbD (gbR _ none)) (chgF hG)) (c0);have k1:=gbk (gbT (gbD (gbR _ none)) (chgF hG)) (c1)
   (try simp at hd)
   (first | simp [hd] | simp)
   clear hd
   go_wp2_with (fail)
   exact ⟨rfl,rfl⟩
 intro f w5 hI hd;obtain ⟨hBS,hCH⟩:=hI;have hCH:=chgD hCH;simp [knowsC,dstAt] at hd;obtain ⟨h0_,h1_,h2_,h3_,h4_,h5_⟩:=hd;simp only [puts,dsts,Act.put,h0_,h1_,h2_,h3_,h4_,h5_,List.filterMap_cons,List.filterMap_nil,List.setIfInBounds_toArray,List.set_cons_zero,List.set_cons_succ];clear h0_ h1_ h2_ h3_ h4_ h5_;go_wp2_with fail;refine ret_tc Tryz.results120 (by rfl) stTape (cs:=#[.int .i64 s,.int .i64 ((a:Int)+1)]) hBS (by rfl) (by rfl) ?_;refine ⟨?_,gb_chg G3.out hCH (by omega)⟩;simp only [HB.out,← HB2.out];rfl
set_option maxHeartbeats 400000 in
theorem implTapeFork_yes (s a n:Nat) (w:World) (hs:s<4294967296) (ha:a≤1000000) (hn:n≤1000000) :
  Calls Tryz.prog 51 #[.agg #[.int .i64 s,.int .i64 a],.int .i64 n] w fun e w'=>e=.returned (.agg #[.int .i64 (keyN s 9 n),.int .i64 0])∧w.grownBy w' none:=by
 obtain ⟨kn,hkn⟩:∃x,keyN s 9 n=x:=⟨_,rfl⟩;rw [hkn];have q1:=zH (inQ_yes (z:=(n:Int)) (a:=0) (b:=1000000) (by omega) (by omega));have d1:=zH (tape_yes hs ha)
 go_enter Tryz.func51,Tryz.ntmps51
 have B0:=zH ((Blk.new w 41 #[.int .i64 s,.int .i64 a]).grow (gbA (gbR _ _) (.cells #[.int .i64 0,.int .i64 0] 41)));have B1:=zH (Blk.new' (w.alloc (.cells #[.int .i64 s,.int .i64 a] 41)) 41 #[.int .i64 0,.int .i64 0] (w.heap.size+1) (by simp));have G1:=zH (gbA (gbA (gbR w none) (.cells #[.int .i64 s,.int .i64 a] 41)) (.cells #[.int .i64 0,.int .i64 0] 41));go_wp2_with fail;refine (implTapeOk_c s a _).mono ?_;rintro e w1 ⟨rfl,g1⟩;rw [d1.out];have B0:=zH (B0.out.grow g1);have B1:=zH (B1.out.grow g1);have G1:=zH (gbT G1.out g1);clear g1;have c0:=B0.out.cell 0;have c1:=B0.out.cell 1;have b0:=B1.out.cell 0;have b1:=B1.out.cell 1;have f0:=B1.out.frozen 0;have f1:=B1.out.frozen 1;simp at c0 c1 b0 b1;go_wp2_with fail;refine (implInq_c n 0 1000000 _).mono ?_;rintro e w2 ⟨rfl,rfl⟩;rw [q1.out];go_wp2_with fail;refine (implKeyed_yes s 9 n _ hs (by omega) (by omega)).mono ?_;rintro e w2 ⟨rfl,rfl⟩;rw [hkn];have RS:=zH (blk_setCells B1.out [.int .i64 (kn),.int .i64 0] rfl);have CH:=zH (chg_setCells (w.heap.size+1) [.int .i64 (kn),.int .i64 0] 0 w1);go_wp2_with fail;refine ret_c Tryz.results51 (by rfl) stTape (cs:=#[.int .i64 (kn),.int .i64 0]) RS.out (by rfl) (by rfl) ?_;exact ⟨rfl,gb_chg G1.out CH.out (by omega)⟩
end Go.Proofs.YthaadgdeadbhkaaGreat
namespace Go.Proofs.YthaadgdeadbhkaaGreat
attribute [local simp] depsC dstAt kAt bindE List.filter_cons bd_data bd_chain bd_guard bd_phase bd_text bd_gc puts dsts Act.put
def tapeL (s a n k:Nat):List Int:=(List.range k).map fun j=>((belN s (a+j) n:Nat):Int)
theorem tapeL_len (s a n k:Nat):(tapeL s a n k).length=k:=by simp [tapeL]
theorem tapeL_succ (s a n k:Nat):tapeL s a n (k+1)=tapeL s a n k ++ [((belN s (a+k) n:Nat):Int)]:=by
 unfold tapeL;rw [List.range_succ,List.map_append];rfl
theorem tapeL_rng {s a n k:Nat} (hn:0<n):∀z∈tapeL s a n k,0≤z∧z<(n:Int):=fun z hz=>by
 unfold tapeL at hz;obtain ⟨j,_,rfl⟩:=List.mem_map.1 hz;have:=belN_lt (s:=s) (a:=a+j) hn;omega
set_option maxHeartbeats 1000000 in
theorem specTapeList_yes (s a n k:Nat) (w:World) (hs:s<4294967296) (hk:k≤1000) (ha:a+k≤1000000) (hn1:1≤n) (hn:n≤65536) :
  Calls Tryz.prog 141 #[.agg #[.int .i64 s,.int .i64 a],.int .i64 n,.int .i64 k] w fun e w'=>∃v,e=.returned (.tuple #[v,.agg #[.int .i64 s,.int .i64 ((a+k:Nat):Int)]])∧w'.ownsRow w.heap.size 3 1 v k ((tapeL s a n k).map (Value.int .i64))∧w.grownBy w' none:=by
 have q1:=zH (inQ_yes (z:=(k:Int)) (a:=0) (b:=1000) (by omega) (by omega));have q2:=zH (inQ_yes (z:=(n:Int)) (a:=1) (b:=65536) (by omega) (by omega));have d1:=zH (tape_yes hs (show a≤1000000 by omega));have d3:¬(1000000:Int)<(a:Int)+(k:Int):=by omega
 go_enter Tryz.func141,Tryz.ntmps141
 have B0:=zH ((Blk.new w 41 #[.int .i64 s,.int .i64 a]).grow (gbA (gbR _ _) (.cells #[.int .i64 0,.int .i64 0] 41)));have B1:=zH (Blk.new' (w.alloc (.cells #[.int .i64 s,.int .i64 a] 41)) 41 #[.int .i64 0,.int .i64 0] (w.heap.size+1) (by simp));have G1:=zH (gbA (gbA (gbR w none) (.cells #[.int .i64 s,.int .i64 a] 41)) (.cells #[.int .i64 0,.int .i64 0] 41));have B0:=zH (B0.out.grow (gbA (gbR _ _) (.cells #[] 3)));have B1:=zH (B1.out.grow (gbA (gbR _ _) (.cells #[] 3)));have G1:=zH (gbA G1.out (.cells #[] 3));have O1:=zH (World.ownsRow_made (e:=3) (size:=1) (base:=w.heap.size) ((w.alloc (.cells #[.int .i64 s,.int .i64 a] 41)).alloc (.cells #[.int .i64 0,.int .i64 0] 41)) #[] 0 (by simp;omega) (by simp) rfl);go_wp2_with fail;refine (specInq_c k 0 1000 _).mono ?_;rintro e w1 ⟨rfl,rfl⟩;rw [q1.out];go_wp2_with fail;refine (specInq_c n 1 65536 _).mono ?_;rintro e w1 ⟨rfl,rfl⟩;rw [q2.out];go_wp2_with fail;refine (specTapeOk_c s a _).mono ?_;rintro e w1 ⟨rfl,g1⟩;rw [d1.out];have z1:=g1.size;simp at z1;have B0:=zH (B0.out.grow g1);have B1:=zH (B1.out.grow g1);have G1:=zH (gbT G1.out g1);have O1:=zH (own_grow O1.out g1);clear g1;have c1:=B0.out.cell 1;simp at c1;go_wp2_with fail
 have O2:Hid (w1.ownsRow (w.heap.size+2) 3 1 (.slice (some ⟨w.heap.size+1+1,0,none⟩) 0 0) 0 ((tapeL s a n 0).map (Value.int .i64))):=by
  have:=own_rebase (base':=w.heap.size+2) O1.out (fun g hg=>by simp [Value.ownBlock] at hg;omega);unfold Hid
  simpa [tapeL] using this
 have G2:=zH (gbR w1 none);have B0':=zH (B0.out.grow G2.out);have B1':=zH (B1.out.grow G2.out);have G1':=zH (gbT G1.out G2.out);clear B0 B1 G1 G2 c1
 go_loopw [8,9] (fun v i wr=>∃j:Nat,j≤k∧i=.int .i64 j∧Hid (wr.ownsRow (w.heap.size+2) 3 1 v j ((tapeL s a n j).map (Value.int .i64)))∧Hid (Blk wr w.heap.size 41 #[.int .i64 s,.int .i64 ((a:Int)+(j:Int))])∧Hid (Blk wr (w.heap.size+1) 41 #[.int .i64 0,.int .i64 0])∧Hid (w.grownBy wr none)) (fun _ i _=>k - (intOf i).toNat)
 case atStart=>exact ⟨0,Nat.zero_le _,rfl,O2.out,zH (by simpa using B0'.out),B1'.out,G1'.out⟩
 case round =>
  obtain ⟨j,hj,rfl,hO,hB,hC,hG⟩:=hrel;obtain ⟨A4,c4,rfl,_,_⟩:=own_form hO.out;have b0:=hB.out.cell 0;have b1:=hB.out.cell 1;simp at b0 b1
  by_cases hlt:j<k
  ·have i1:(j:Int)<(k:Int):=by omega
   have HS:=zH (tapeL_succ s a n j);rw [show (a:Int)+(j:Int)=((a+j:Nat):Int) by omega] at b1;have hsz:=hG.out.size;have hl1:=hC.out.lt;go_wp2_with fail;refine (specTapeBelow_yes s (a+j) n _ hs (by omega) hn1 hn).mono ?_;rintro e w2 ⟨rfl,g2⟩;have z2:=g2.size;have OW:=zH (own_grow hO.out g2);have BW:=zH (hB.out.grow g2);have CW:=zH (hC.out.grow g2);have GW:=zH (gbT hG.out g2);obtain ⟨bn,hbn⟩:∃x,belN s (a+j) n=x:=⟨_,rfl⟩;rw [hbn] at HS ⊢;have b0':=BW.out.cell 0;have b1':=BW.out.cell 1;have f0':=BW.out.frozen 0;have f1':=BW.out.frozen 1;have lb:=BW.out.lt;simp at b0' b1';clear hO hB hC hG g2 b0 b1 hbn;have CH:=zH (chg_setCells w.heap.size [.int .i64 s,.int .i64 (((a+j:Nat):Int)+1)] 0 w2);have OW3:=zH (Chg.own OW.out CH.out (fun g hg (e:g=w.heap.size)=>by have:=(OW.out.lt g hg).1;omega));have BW3:=zH (blk_setCells BW.out [.int .i64 s,.int .i64 (((a+j:Nat):Int)+1)] rfl);have CW3:=zH (CW.out.chg CH.out (by omega));have GW3:=zH (gb_chg GW.out CH.out (Nat.le_refl _));obtain ⟨w3,hw3⟩:∃x,setCells w2 w.heap.size 0 [.int .i64 s,.int .i64 (((a+j:Nat):Int)+1)]=x:=⟨_,rfl⟩;have hz3:w3.heap.size=w2.heap.size:=by rw [← hw3];simp [setCells]
   rw [hw3] at OW3 BW3 CW3 GW3;simp [setCells] at hw3;have OW4:=zH (own_grow OW3.out (gbA (gbR _ none) (.cells #[.int .i64 s,.int .i64 ((a:Int)+(j:Int)+1)] 41)));have BW4:=zH (BW3.out.grow (gbA (gbR _ none) (.cells #[.int .i64 s,.int .i64 ((a:Int)+(j:Int)+1)] 41)));have CW4:=zH (CW3.out.grow (gbA (gbR _ none) (.cells #[.int .i64 s,.int .i64 ((a:Int)+(j:Int)+1)] 41)));have GW4:=zH (gbA GW3.out (.cells #[.int .i64 s,.int .i64 ((a:Int)+(j:Int)+1)] 41));clear CH OW BW CW GW OW3 BW3 CW3 GW3
   go_wp2_with (at_builtin;(refine wp_append1h _ (w2.heap.size+1) (by simp;omega) el_int rfl (.tmp 47) (.tmp 49) rfl _ rfl (by simp [Value.oneCell']) (w.heap.size+2) _ j _ OW4.out rfl rfl (by unfold maxLen;omega) (by omega) (by simp;omega) ?_);intro v' w5 hown5 hgrow5)
   have h1:Hid (w5.ownsRow (w.heap.size+2) 3 1 v' (j+1) ((tapeL s a n (j+1)).map (Value.int .i64))):=by unfold Hid;rw [HS.out];simpa using hown5
   have h2:Hid (Blk w5 w.heap.size 41 #[.int .i64 s,.int .i64 ((a:Int)+((j+1:Nat):Int))]):=by
    have:=BW4.out.grown hgrow5 (fun e=>by have:=(OW4.out.lt _ e.symm).1;omega);rw [show (a:Int)+((j+1:Nat):Int)=((a+j:Nat):Int)+1 by omega];exact this
   have h3:=zH (CW4.out.grown hgrow5 (fun e=>by have:=(OW4.out.lt _ e.symm).1;omega));have h4:=zH (gbN GW4.out hgrow5 (fun g e=>by have:=(OW4.out.lt g e).1;omega));clear hown5 hgrow5 OW4 BW4 CW4 GW4
   go_roundw
   case rel=>exact ⟨j+1,by omega,by go_num,h1,h2,h3,h4⟩
   case measure=>simp [intOf];omega
  ·have hjk:j=k:=by omega
   subst hjk;have f0:=hC.out.frozen 0;have f1:=hC.out.frozen 1;have c0:=hC.out.cell 0;have c1:=hC.out.cell 1;simp at c0 c1;have OE:=zH hO.out;go_wp2_with fail;refine region_chain [.rd (.slice A4 j c4),.rd (.agg #[.int .i64 s,.int .i64 ((a:Int)+(j:Int))]),.rd (.slice A4 j c4),.ch] (fun _=>False) [⟨[],fun _ w'=>w'=wr.drew⟩,⟨[],fun _ w'=>Blk w' (w.heap.size+1) 41 #[.int .i64 s,.int .i64 ((a:Int)+(j:Int))]∧Chg (fun y=>y=w.heap.size+1) wr.drew w'⟩] (by kernel_rfl) (by kernel_rfl) (by kernel_rfl) 1 (by kernel_rfl) (by simp only [flOk,and_true]) rfl rfl ?_ ?_
   ·simp only [hopsK,hopK,Kd.next,and_true]
    refine ⟨?_, ?_, ?_, ?_⟩;rotate_left 3
    ·intro f w4 hG hI hd
     have hI:w4=wr.drew:=hI;subst hI
     (try simp at hd)
     have R4:=(hC.out).grow (gbD (gbR _ none));have rf0:=R4.frozen 0;have rg0:=(hC.out).frozen 0;have rb0:=R4.cell 0;have rf1:=R4.frozen 1;have rg1:=(hC.out).frozen 1;have rb1:=R4.cell 1;simp at rb0 rb1;have RS:=zH (blk_setCells R4 [.int .i64 s,.int .i64 ((a:Int)+(j:Int))] rfl);clear R4
     first | simp [hd] | simp
     clear hd;go_wp2_with fail;exact ⟨rfl,.bool false,RS.out,chg_setCells (w.heap.size+1) [.int .i64 s,.int .i64 ((a:Int)+(j:Int))] 0 wr.drew⟩
    all_goals
     intro f w4 hG hd;have k0:=gbk (gbT (gbD (gbR _ none)) (chgF hG)) (b0);have k1:=gbk (gbT (gbD (gbR _ none)) (chgF hG)) (b1)
     (try simp at hd)
     (first | simp [hd] | simp)
     clear hd
     go_wp2_with (fail)
     exact ⟨rfl,rfl⟩
   intro f w5 hI hd;obtain ⟨hBS,hCH⟩:=hI;have hCH:=chgD hCH;simp [knowsC,dstAt] at hd;obtain ⟨h0_,h1_,h2_⟩:=hd;simp only [puts,dsts,Act.put,h0_,h1_,h2_,List.filterMap_cons,List.filterMap_nil,List.setIfInBounds_toArray,List.set_cons_zero,List.set_cons_succ];clear h0_ h1_ h2_;have h4:=zH (gb_chg hG.out hCH (by omega));have h1:=zH (Chg.own OE.out hCH (fun g hg (e:g=w.heap.size+1)=>by have:=(OE.out.lt g hg).1;omega));go_wp2_with fail;refine ret_tc Tryz.results141 (by rfl) stTape (cs:=#[.int .i64 s,.int .i64 ((a:Int)+(j:Int))]) hBS (by rfl) (by rfl) ?_;exact ⟨_,by rw [show ((a+j:Nat):Int)=(a:Int)+(j:Int) by omega];rfl,own_base h1.out (by omega),h4.out⟩
set_option maxHeartbeats 1000000 in
theorem implTapeList_yes (s a n k:Nat) (w:World) (hs:s<4294967296) (hk:k≤1000) (ha:a+k≤1000000) (hn1:1≤n) (hn:n≤65536) :
  Calls Tryz.prog 161 #[.agg #[.int .i64 s,.int .i64 a],.int .i64 n,.int .i64 k] w fun e w'=>∃v,e=.returned (.tuple #[v,.agg #[.int .i64 s,.int .i64 ((a+k:Nat):Int)]])∧w'.ownsRow w.heap.size 3 1 v k ((tapeL s a n k).map (Value.int .i64))∧w.grownBy w' none:=by
 have q1:=zH (inQ_yes (z:=(k:Int)) (a:=0) (b:=1000) (by omega) (by omega));have q2:=zH (inQ_yes (z:=(n:Int)) (a:=1) (b:=65536) (by omega) (by omega));have d1:=zH (tape_yes hs (show a≤1000000 by omega));have d3:¬(1000000:Int)<(a:Int)+(k:Int):=by omega
 go_enter Tryz.func161,Tryz.ntmps161
 have B0:=zH ((Blk.new w 41 #[.int .i64 s,.int .i64 a]).grow (gbA (gbR _ _) (.cells #[.int .i64 0,.int .i64 0] 41)));have B1:=zH (Blk.new' (w.alloc (.cells #[.int .i64 s,.int .i64 a] 41)) 41 #[.int .i64 0,.int .i64 0] (w.heap.size+1) (by simp));have G1:=zH (gbA (gbA (gbR w none) (.cells #[.int .i64 s,.int .i64 a] 41)) (.cells #[.int .i64 0,.int .i64 0] 41));go_wp2_with fail;refine (implInq_c k 0 1000 _).mono ?_;rintro e w1 ⟨rfl,rfl⟩;rw [q1.out];go_wp2_with fail;refine (implInq_c n 1 65536 _).mono ?_;rintro e w1 ⟨rfl,rfl⟩;rw [q2.out];go_wp2_with fail;refine (implTapeOk_c s a _).mono ?_;rintro e w1 ⟨rfl,g1⟩;rw [d1.out];have z1:=g1.size;simp at z1;have B0:=zH (B0.out.grow g1);have B1:=zH (B1.out.grow g1);have G1:=zH (gbT G1.out g1);clear g1;have c1:=B0.out.cell 1;simp at c1;go_wp2_with fail;have O2:Hid ((w1.alloc (.cells #[] 3)).ownsRow (w.heap.size+2) 3 1 (.slice (some ⟨w1.heap.size,0,none⟩) 0 0) 0 ((tapeL s a n 0).map (Value.int .i64))):=World.ownsRow_made (e:=3) (size:=1) (base:=w.heap.size+2) w1 #[] 0 (by omega) (by simp) rfl;have G2:=zH (gbA (gbR w1 none) (.cells #[] 3));have B0':=zH (B0.out.grow G2.out);have B1':=zH (B1.out.grow G2.out);have G1':=zH (gbT G1.out G2.out);clear B0 B1 G1 G2 c1
 go_loopw [8,9] (fun v i wr=>∃j:Nat,j≤k∧i=.int .i64 j∧Hid (wr.ownsRow (w.heap.size+2) 3 1 v j ((tapeL s a n j).map (Value.int .i64)))∧Hid (Blk wr w.heap.size 41 #[.int .i64 s,.int .i64 ((a:Int)+(j:Int))])∧Hid (Blk wr (w.heap.size+1) 41 #[.int .i64 0,.int .i64 0])∧Hid (w.grownBy wr none)) (fun _ i _=>k - (intOf i).toNat)
 case atStart=>exact ⟨0,Nat.zero_le _,rfl,O2.out,zH (by simpa using B0'.out),B1'.out,G1'.out⟩
 case round =>
  obtain ⟨j,hj,rfl,hO,hB,hC,hG⟩:=hrel;obtain ⟨A4,c4,rfl,_,_⟩:=own_form hO.out;have b0:=hB.out.cell 0;have b1:=hB.out.cell 1;simp at b0 b1
  by_cases hlt:j<k
  ·have i1:(j:Int)<(k:Int):=by omega
   have HS:=zH (tapeL_succ s a n j);rw [show (a:Int)+(j:Int)=((a+j:Nat):Int) by omega] at b1;have hsz:=hG.out.size;have hl1:=hC.out.lt;go_wp2_with fail;refine (implTapeBelow_yes s (a+j) n _ hs (by omega) hn1 hn).mono ?_;rintro e w2 ⟨rfl,g2⟩;have z2:=g2.size;have OW:=zH (own_grow hO.out g2);have BW:=zH (hB.out.grow g2);have CW:=zH (hC.out.grow g2);have GW:=zH (gbT hG.out g2);obtain ⟨bn,hbn⟩:∃x,belN s (a+j) n=x:=⟨_,rfl⟩;rw [hbn] at HS ⊢;have b0':=BW.out.cell 0;have b1':=BW.out.cell 1;have f0':=BW.out.frozen 0;have f1':=BW.out.frozen 1;have lb:=BW.out.lt;simp at b0' b1';clear hO hB hC hG g2 b0 b1 hbn;have OW4:=zH (own_grow OW.out (gbA (gbR _ none) (.cells #[.int .i64 s,.int .i64 ((a:Int)+(j:Int)+1)] 41)));have BW4:=zH (BW.out.grow (gbA (gbR _ none) (.cells #[.int .i64 s,.int .i64 ((a:Int)+(j:Int)+1)] 41)));have CW4:=zH (CW.out.grow (gbA (gbR _ none) (.cells #[.int .i64 s,.int .i64 ((a:Int)+(j:Int)+1)] 41)));have NW4:=zH (Blk.new w2 41 #[.int .i64 s,.int .i64 ((a:Int)+(j:Int)+1)]);have GW4:=zH (gbA GW.out (.cells #[.int .i64 s,.int .i64 ((a:Int)+(j:Int)+1)] 41));have OL:=zH (fun g hg=>OW.out.lt g hg);clear OW BW CW GW b0' b1' f0' f1'
   go_wp2_with (at_builtin;(refine wp_append1h _ (w2.heap.size+1) (by simp) el_int rfl (.tmp 45) (.tmp 47) rfl _ rfl (by simp [Value.oneCell']) (w.heap.size+2) _ j _ OW4.out rfl rfl (by unfold maxLen;omega) (by omega) (by simp;omega) ?_);intro v' w5 hown5 hgrow5;(have BW5:=zH (BW4.out.grown hgrow5 (fun e=>by have:=(OW4.out.lt _ e.symm).1;omega));have CW5:=zH (CW4.out.grown hgrow5 (fun e=>by have:=(OW4.out.lt _ e.symm).1;omega));have NW5:=zH (NW4.out.grown hgrow5 (fun e=>by have:=(OL.out _ e.symm).2;omega));have OW5:Hid (w5.ownsRow (w.heap.size+2) 3 1 v' (j+1) ((tapeL s a n (j+1)).map (Value.int .i64))):=(by unfold Hid;rw [HS.out];simpa using hown5);have GW5:=zH (gbN GW4.out hgrow5 (fun g e=>by have:=(OW4.out.lt g e).1;omega));have b0:=BW5.out.cell 0;have b1:=BW5.out.cell 1;have f0:=BW5.out.frozen 0;have f1:=BW5.out.frozen 1;have n0:=NW5.out.cell 0;have n1:=NW5.out.cell 1;simp at b0 b1 n0 n1;clear hown5 hgrow5 OW4 BW4 CW4 GW4 NW4 OL))
   have CH:=zH (chg_setCells w.heap.size [.int .i64 s,.int .i64 ((a:Int)+(j:Int)+1)] 0 w5);have h1:=zH (Chg.own OW5.out CH.out (fun g hg (e:g=w.heap.size)=>by have:=(OW5.out.lt g hg).1;omega))
   have h2:Hid (Blk (setCells w5 w.heap.size 0 [.int .i64 s,.int .i64 ((a:Int)+(j:Int)+1)]) w.heap.size 41 #[.int .i64 s,.int .i64 ((a:Int)+((j+1:Nat):Int))]):=by
    have:=blk_setCells BW5.out [.int .i64 s,.int .i64 ((a:Int)+(j:Int)+1)] rfl;rw [show (a:Int)+((j+1:Nat):Int)=(a:Int)+(j:Int)+1 by omega];exact this
   have h3:=zH (CW5.out.chg CH.out (by omega));have h4:=zH (gb_chg GW5.out CH.out (Nat.le_refl _))
   go_roundw
   case rel=>exact ⟨j+1,by omega,by go_num,h1.out,h2.out,h3.out,h4.out⟩
   case measure=>simp [intOf];omega
  ·have hjk:j=k:=by omega
   subst hjk;have f0:=hC.out.frozen 0;have f1:=hC.out.frozen 1;have c0:=hC.out.cell 0;have c1:=hC.out.cell 1;simp at c0 c1;have OE:=zH hO.out;go_wp2_with fail;refine region_chain [.rd (.slice A4 j c4),.rd (.agg #[.int .i64 s,.int .i64 ((a:Int)+(j:Int))]),.rd (.slice A4 j c4),.ch] (fun _=>False) [⟨[],fun _ w'=>w'=wr.drew⟩,⟨[],fun _ w'=>Blk w' (w.heap.size+1) 41 #[.int .i64 s,.int .i64 ((a:Int)+(j:Int))]∧Chg (fun y=>y=w.heap.size+1) wr.drew w'⟩] (by kernel_rfl) (by kernel_rfl) (by kernel_rfl) 1 (by kernel_rfl) (by simp only [flOk,and_true]) rfl rfl ?_ ?_
   ·simp only [hopsK,hopK,Kd.next,and_true]
    refine ⟨?_, ?_, ?_, ?_⟩;rotate_left 3
    ·intro f w4 hG hI hd
     have hI:w4=wr.drew:=hI;subst hI
     (try simp at hd)
     have R4:=(hC.out).grow (gbD (gbR _ none));have rf0:=R4.frozen 0;have rg0:=(hC.out).frozen 0;have rb0:=R4.cell 0;have rf1:=R4.frozen 1;have rg1:=(hC.out).frozen 1;have rb1:=R4.cell 1;simp at rb0 rb1;have RS:=zH (blk_setCells R4 [.int .i64 s,.int .i64 ((a:Int)+(j:Int))] rfl);clear R4
     first | simp [hd] | simp
     clear hd;go_wp2_with fail;exact ⟨rfl,.bool false,RS.out,chg_setCells (w.heap.size+1) [.int .i64 s,.int .i64 ((a:Int)+(j:Int))] 0 wr.drew⟩
    all_goals
     intro f w4 hG hd;have k0:=gbk (gbT (gbD (gbR _ none)) (chgF hG)) (b0);have k1:=gbk (gbT (gbD (gbR _ none)) (chgF hG)) (b1)
     (try simp at hd)
     (first | simp [hd] | simp)
     clear hd
     go_wp2_with (fail)
     exact ⟨rfl,rfl⟩
   intro f w5 hI hd;obtain ⟨hBS,hCH⟩:=hI;have hCH:=chgD hCH;simp [knowsC,dstAt] at hd;obtain ⟨h0_,h1_,h2_⟩:=hd;simp only [puts,dsts,Act.put,h0_,h1_,h2_,List.filterMap_cons,List.filterMap_nil,List.setIfInBounds_toArray,List.set_cons_zero,List.set_cons_succ];clear h0_ h1_ h2_;have h4:=zH (gb_chg hG.out hCH (by omega));have h1:=zH (Chg.own OE.out hCH (fun g hg (e:g=w.heap.size+1)=>by have:=(OE.out.lt g hg).1;omega));go_wp2_with fail;refine ret_tc Tryz.results161 (by rfl) stTape (cs:=#[.int .i64 s,.int .i64 ((a:Int)+(j:Int))]) hBS (by rfl) (by rfl) ?_;exact ⟨_,by rw [show ((a+j:Nat):Int)=(a:Int)+(j:Int) by omega];rfl,own_base h1.out (by omega),h4.out⟩
end Go.Proofs.YthaadgdeadbhkaaGreat
