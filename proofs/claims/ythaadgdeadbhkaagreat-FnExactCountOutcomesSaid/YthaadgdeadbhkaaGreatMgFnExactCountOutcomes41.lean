/-
  TripleNew of the reference,where it answers.
-/
import Derived.Test.YthaadgdeadbhkaaGreatMgFnExactCountOutcomes40
open Go.RowKit
set_option linter.unusedVariables false
set_option linter.unusedSimpArgs false
namespace Go.Proofs.YthaadgdeadbhkaaGreat
attribute [local simp] depsC dstAt kAt bindE List.filter_cons Zz Zq Zr Zs ZA ZW
theorem Vm (al:List Int) (P s a a':Nat) (x:Int) (kv:Value) (w0:World) (h:AggR w0 (ckeys ⟨P,al⟩) kv) (wk:kwf ⟨P,al⟩) (hk:keysB ⟨P,al⟩=true) (hx:elemB (P:Int) x=true) (hs:s<4294967296) (ha:a≤900000) (he:a+(al.length - 1)+(al.length - 1)=a') :
    Calls Tryz.prog 89 #[kv,.int .i64 x,.agg #[.int .i64 s,.int .i64 a]] w0 fun e w'=>∃A n c B m d,e=.returned (.tuple #[.agg #[.slice A n c,.slice B m d],.agg #[.int .i64 s,.int .i64 a']])∧autF w0.heap.size (ZL ⟨P,al⟩ P s a x) (.agg #[.slice A n c,.slice B m d]) w'∧w0.grownBy w' none:=by
  subst he;refine (VA ⟨P,al⟩ P s a x kv w0 h wk hk rfl hx hs ha).mono ?_;rintro e w' ⟨v,rfl,o,g⟩;obtain ⟨A,n,c,B,m,d,rfl⟩:=autF.form o;exact ⟨A,n,c,B,m,d,rfl,o,g⟩
def boxV (lo:Nat) (T:TypeId) (l:List Value) (w:World):Prop:=∃g u0 u1,l=[.pointer (some ⟨g,0,none⟩),.agg #[u0,u1]]∧lo≤g∧Blk w g T #[u0,u1]
def TTN (lo gK:Nat) (p x y z:Int) (kv:Value) (s a a':Int) (m:AuM):List Fact :=
  [onT 60 (isV kv),onT 61 (isV (.pointer (some ⟨gK,0,none⟩))),onT 62 (isV (.int .i64 p)),onT 63 (isV (.int .i64 x)),onT 64 (isV (.int .i64 y)),onT 65 (isV (.int .i64 z)),onT 66 (isV (.agg #[.int .i64 s,.int .i64 a])),
   onT 67 (aTup lo m (.agg #[.int .i64 s,.int .i64 a'])),onT 59 (aTup lo m (.agg #[.int .i64 s,.int .i64 a'])),onT 68 (autV lo m),onT 69 (isV (.agg #[.int .i64 s,.int .i64 a'])),onT 14 (boxA lo 80),onT 15 (boxA lo 41),
   ⟨[14,68],fun l w=>boxV lo 80 l w⟩,⟨[15,69],fun l w=>boxV lo 41 l w⟩]
section
variable {lo gK:Nat} {p x y z:Int} {kv:Value} {s a a':Int} {m:AuM}
theorem TTN_st:Zw (TTN lo gK p x y z kv s a a' m):=by
  unfold TTN;intro F hF;simp only [List.mem_cons,List.not_mem_nil,or_false] at hF
  rcases hF with rfl | rfl | rfl | rfl | rfl | rfl | rfl | rfl | rfl | rfl | rfl | rfl | rfl | rfl | rfl
  all_goals first | exact Zh (Zb _) | exact Zh Jy | exact Zh autV_st | exact Zh boxA_st | skip
  · rintro l w w' ⟨g,u0,u1,h1,h2,h3⟩ hg
    exact ⟨g,u0,u1,h1,h2,h3.grow hg⟩
  · rintro l w w' ⟨g,u0,u1,h1,h2,h3⟩ hg
    exact ⟨g,u0,u1,h1,h2,h3.grow hg⟩
theorem TTN_keep {f:Tmp→Value} {w w':World} {j g:Nat} {T:TypeId} {cs:Array Value} {x0 x1:Value} (k:Chg (fun y=>y=g) w w') (B:Blk w g T cs) (RS:Blk w' g T #[x0,x1]) (hj:(j=13∧T=80)∨(j=14∧T=41)) :
    keeps f w w' j (TTN lo gK p x y z kv s a a' m) 0:=by
  have hT:3≠T:=by rcases hj with h | h <;> rw [h.2] <;> decide
  simp only [TTN,keeps,and_true];have ka:∀v,autF lo m v w→autF lo m v w':=fun v h=>h.far B k hT;refine ⟨fun _ h=>h,fun _ h=>h,fun _ h=>h,fun _ h=>h,fun _ h=>h,fun _ h=>h,fun _ h=>h,fun _ ⟨A,n,c,B',k',d,h1,h2⟩=>⟨A,n,c,B',k',d,h1,ka _ h2⟩,fun _ ⟨A,n,c,B',k',d,h1,h2⟩=>⟨A,n,c,B',k',d,h1,ka _ h2⟩,fun _ ⟨A,n,c,B',k',d,h1,h2⟩=>⟨A,n,c,B',k',d,h1,ka _ h2⟩,fun _ h=>h,fun _ h=>boxA_set h B RS k,fun _ h=>boxA_set h B RS k,fun e ⟨g',u0,u1,h1,h2,h3⟩ => ?_,fun e ⟨g',u0,u1,h1,h2,h3⟩ => ?_⟩
  · refine ⟨g',u0,u1,h1,h2,h3.chg k (blk_ne h3 B ?_)⟩
    rcases hj with h | h
    · omega
    · rw [h.2];decide
  · refine ⟨g',u0,u1,h1,h2,h3.chg k (blk_ne h3 B ?_)⟩
    rcases hj with h | h
    · rw [h.2];decide
    · omega
end
set_option maxHeartbeats 4000000 in
set_option maxRecDepth 100000 in
theorem Jj (k:KM) (P s a:Nat) (kv:Value) (w0:World) (h:AggR w0 (ckeys k) kv) (wk:kwf k) (hk:keysB k=true) (hP:k.p=P) (hs:s<4294967296) (ha:a≤800000) :
    Calls Tryz.prog 45 #[kv,.agg #[.int .i64 s,.int .i64 a]] w0 fun e w'=>∃v,e=.returned (.tuple #[v,.agg #[.int .i64 s,.int .i64 ((a+2+6*(k.al.length - 1):Nat):Int)]])∧AggB w0.heap.size w' (YA (Ys k P s a)) v∧w0.grownBy w' none:=by
  obtain ⟨A,c,rfl,hc,hm,hI⟩:=ZG h;obtain ⟨p,al⟩:=k;simp only at hP;subst hP;obtain ⟨kf,ke,n1,n5⟩:=Yc hk;obtain ⟨p2,p101⟩:=ZC kf;simp only at n1 n5 ke kf p2 p101;obtain ⟨w1,hw1⟩:∃y:World,(((w0.alloc (.cells #[.int .i64 P,.slice A al.length c] 34)).alloc (.cells #[.int .i64 s,.int .i64 a] 41)).alloc (.cells #[.slice none 0 0,.slice none 0 0,.slice none 0 0,.slice none 0 0,.slice none 0 0,.slice none 0 0] 82)).alloc (.cells #[.int .i64 0,.int .i64 0] 41)=y:=⟨_,rfl⟩;have GG:Hid (w0.grownBy w1 none):=by rw [← hw1];exact gbA (gbA (gbA (gbA (gbR _ _) _) _) _) _
  have z1:w1.heap.size=w0.heap.size+4:=by rw [← hw1];simp
  have D0:Hid (Blk w1 w0.heap.size 34 #[.int .i64 P,.slice A al.length c]):=by rw [← hw1];exact (((Blk.new w0 _ _).grow (gbA (gbR _ _) _)).grow (gbA (gbR _ _) _)).grow (gbA (gbR _ _) _)
  have D1:Hid (Blk w1 (w0.heap.size+1) 41 #[.int .i64 s,.int .i64 a]):=by rw [← hw1];exact ((Blk.new' _ _ _ _ (by simp)).grow (gbA (gbR _ _) _)).grow (gbA (gbR _ _) _)
  have D2:Hid (Blk w1 (w0.heap.size+1+1) 82 #[.slice none 0 0,.slice none 0 0,.slice none 0 0,.slice none 0 0,.slice none 0 0,.slice none 0 0]):=by rw [← hw1];exact (Blk.new' _ _ _ _ (by simp)).grow (gbA (gbR _ _) _)
  have D3:Hid (Blk w1 (w0.heap.size+1+1+1) 41 #[.int .i64 0,.int .i64 0]):=by rw [← hw1];exact Blk.new' _ _ _ _ (by simp)
  have HK:=zH (AggR.grow h GG.out);have WK:=zH wk;have KB:=zH hk;have KF:=zH kf;have TB:=zH (Yw hs (show a≤1000000 by omega));have da:¬(800000:Int)<(a:Int):=by omega
  clear h hI wk hk ke kf
  go_enter Tryz.func45,Tryz.ntmps45
  have k0:=D0.out.cell 0;have k1:=D0.out.cell 1;simp at k0 k1;go_wp2_with fail;clear hw1 k0 k1;refine (YP ⟨P,al⟩ _ _ HK.out WK.out).mono ?_;rintro e w2 ⟨rfl,g2⟩;rw [KB.out];have t0:=(D1.out.grow g2).cell 0;have t1:=(D1.out.grow g2).cell 1;simp at t0 t1;have D1':=zH (D1.out.grow g2);have z2:=g2.size;have D0':=zH (D0.out.grow g2);have D2':=zH (D2.out.grow g2);have D3':=zH (D3.out.grow g2);have HK':=zH (AggR.grow HK.out g2);have GG':=zH (gbT GG.out g2);clear D0 D2 D3 HK GG;have D0:=D0';have D2:=D2';have D3:=D3';have HK:=HK';have GG:=GG';clear D0' D2' D3' HK' GG';clear g2 D1;go_wp2_with fail;refine (YO s a _).mono ?_;rintro e w3 ⟨rfl,g3⟩;rw [TB.out];have D1:=zH (D1'.out.grow g3);have z3:=g3.size;have D0':=zH (D0.out.grow g3);have D2':=zH (D2.out.grow g3);have D3':=zH (D3.out.grow g3);have HK':=zH (AggR.grow HK.out g3);have GG':=zH (gbT GG.out g3);clear D0 D2 D3 HK GG;have D0:=D0';have D2:=D2';have D3:=D3';have HK:=HK';have GG:=GG';clear D0' D2' D3' HK' GG';clear g3 D1' t0 t1;have k0:=D0.out.cell 0;have k1:=D0.out.cell 1;simp at k0 k1;have t0:=D1.out.cell 0;have t1:=D1.out.cell 1;simp at t0 t1;go_wp2_with fail;clear k0 k1 t0 t1 D1;refine (Xu s a P w3 hs (by omega) (by omega) (by omega)).mono ?_;rintro e w4 ⟨rfl,g4⟩;obtain ⟨x1,hx1⟩:∃z,belN s a P=z:=⟨_,rfl⟩;have Lx1:Hid (x1<P):=by rw [← hx1];exact zH (Qb (by omega))
  rw [hx1];have Hx1:=zH hx1;obtain ⟨a1,ha1⟩:∃z,a+1=z:=⟨_,rfl⟩;rw [show ((a:Int)+1)=((a1:Nat):Int) by omega];have ba1:a1≤a+1:=by omega
  have Ha1:=zH ha1;have z4:=g4.size;have D0':=zH (D0.out.grow g4);have D2':=zH (D2.out.grow g4);have D3':=zH (D3.out.grow g4);have HK':=zH (AggR.grow HK.out g4);have GG':=zH (gbT GG.out g4);clear D0 D2 D3 HK GG;have D0:=D0';have D2:=D2';have D3:=D3';have HK:=HK';have GG:=GG';clear D0' D2' D3' HK' GG';clear g4 hx1 ha1;have k0:=D0.out.cell 0;have k1:=D0.out.cell 1;simp at k0 k1;have q0:=fun o=>kA k0 o;have q1:=fun o=>kA k1 o;go_wp2_with fail;clear k0 k1 q0 q1;have ga:=gbA (gbR w4 none) (.cells #[.int .i64 s,.int .i64 (a1:Int)] 41);obtain ⟨wp,hwp⟩:∃y:World,w4.alloc (.cells #[.int .i64 s,.int .i64 (a1:Int)] 41)=y:=⟨_,rfl⟩;rw [hwp] at ga ⊢;have zp:=ga.size;have D0':=zH (D0.out.grow ga);have D2':=zH (D2.out.grow ga);have D3':=zH (D3.out.grow ga);have HK':=zH (AggR.grow HK.out ga);have GG':=zH (gbT GG.out ga);clear D0 D2 D3 HK GG;have D0:=D0';have D2:=D2';have D3:=D3';have HK:=HK';have GG:=GG';clear D0' D2' D3' HK' GG';clear ga hwp;refine (Xu s a1 P wp hs (by omega) (by omega) (by omega)).mono ?_;rintro e w5 ⟨rfl,g5⟩;obtain ⟨y1,hy1⟩:∃z,belN s a1 P=z:=⟨_,rfl⟩;have Ly1:Hid (y1<P):=by rw [← hy1];exact zH (Qb (by omega))
  rw [hy1];have Hy1:=zH hy1;obtain ⟨a2,ha2⟩:∃z,a1+1=z:=⟨_,rfl⟩;rw [show ((a1:Int)+1)=((a2:Nat):Int) by omega];have ba2:a2≤a+2:=by omega
  have Ha2:=zH ha2;have z5:=g5.size;have D0':=zH (D0.out.grow g5);have D2':=zH (D2.out.grow g5);have D3':=zH (D3.out.grow g5);have HK':=zH (AggR.grow HK.out g5);have GG':=zH (gbT GG.out g5);clear D0 D2 D3 HK GG;have D0:=D0';have D2:=D2';have D3:=D3';have HK:=HK';have GG:=GG';clear D0' D2' D3' HK' GG';clear g5 hy1 ha2;have k0:=D0.out.cell 0;have k1:=D0.out.cell 1;simp at k0 k1;have q0:=fun o=>kA k0 o;have q1:=fun o=>kA k1 o;go_wp2_with fail;clear k0 k1 q0 q1;have ga:=gbA (gbR w5 none) (.cells #[.int .i64 s,.int .i64 (a2:Int)] 41);obtain ⟨wp2,hwp⟩:∃y:World,w5.alloc (.cells #[.int .i64 s,.int .i64 (a2:Int)] 41)=y:=⟨_,rfl⟩;rw [hwp] at ga ⊢;have zp2:=ga.size;have D0':=zH (D0.out.grow ga);have D2':=zH (D2.out.grow ga);have D3':=zH (D3.out.grow ga);have HK':=zH (AggR.grow HK.out ga);have GG':=zH (gbT GG.out ga);clear D0 D2 D3 HK GG;have D0:=D0';have D2:=D2';have D3:=D3';have HK:=HK';have GG:=GG';clear D0' D2' D3' HK' GG';clear ga hwp;have EX:Hid (elemB (P:Int) (x1:Int)=true):=zH (Yi KF.out (by omega) (by have:=Lx1.out;omega));have EY:Hid (elemB (P:Int) (y1:Int)=true):=zH (Yi KF.out (by omega) (by have:=Ly1.out;omega));obtain ⟨a3,ha3⟩:∃z,a2+(al.length - 1)+(al.length - 1)=z:=⟨_,rfl⟩;have ba3:a3≤a+10:=by omega
  have Ha3:=zH ha3;refine (Vm al P s a2 a3 x1 _ wp2 HK.out WK.out KB.out EX.out hs (by omega) ha3).mono ?_;rintro e w6 ⟨A1,n1',c1,B1,m1,d1,rfl,o6,g6⟩;have z6:=g6.size;have AU1:=zH o6;have D0':=zH (D0.out.grow g6);have D2':=zH (D2.out.grow g6);have D3':=zH (D3.out.grow g6);have HK':=zH (AggR.grow HK.out g6);have GG':=zH (gbT GG.out g6);clear D0 D2 D3 HK GG;have D0:=D0';have D2:=D2';have D3:=D3';have HK:=HK';have GG:=GG';clear D0' D2' D3' HK' GG';clear g6 o6 ha3;have k0:=D0.out.cell 0;have k1:=D0.out.cell 1;simp at k0 k1;have q0:=fun o=>kA k0 o;have q1:=fun o=>kA k1 o;have q0':=fun o o'=>kA (kA k0 o) o';have q1':=fun o o'=>kA (kA k1 o) o';go_wp2_with fail;clear k0 k1 q0 q1 q0' q1';have ga:=gbA (gbA (gbR w6 none) (.cells #[.slice A1 n1' c1,.slice B1 m1 d1] 80)) (.cells #[.int .i64 s,.int .i64 (a3:Int)] 41);obtain ⟨wp3,hwp⟩:∃y:World,(w6.alloc (.cells #[.slice A1 n1' c1,.slice B1 m1 d1] 80)).alloc (.cells #[.int .i64 s,.int .i64 (a3:Int)] 41)=y:=⟨_,rfl⟩;have BA1:Hid (Blk wp3 w6.heap.size 80 #[.slice A1 n1' c1,.slice B1 m1 d1]):=by rw [← hwp];exact zH ((Blk.new w6 _ _).grow (gbA (gbR _ _) _))
  rw [hwp] at ga ⊢;have zp3:=ga.size;have AU1':=zH (autF.grow AU1.out ga);have D0':=zH (D0.out.grow ga);have D2':=zH (D2.out.grow ga);have D3':=zH (D3.out.grow ga);have HK':=zH (AggR.grow HK.out ga);have GG':=zH (gbT GG.out ga);clear D0 D2 D3 HK GG;have D0:=D0';have D2:=D2';have D3:=D3';have HK:=HK';have GG:=GG';clear D0' D2' D3' HK' GG';clear ga hwp AU1;obtain ⟨a4,ha4⟩:∃z,a3+(al.length - 1)+(al.length - 1)=z:=⟨_,rfl⟩;have ba4:a4≤a+18:=by omega
  have Ha4:=zH ha4;refine (Vm al P s a3 a4 y1 _ wp3 HK.out WK.out KB.out EY.out hs (by omega) ha4).mono ?_;rintro e w7 ⟨A2,n2,c2,B2,m2,d2,rfl,o7,g7⟩;have z7:=g7.size;have AU2:=zH o7;have AU1:=zH (autF.grow AU1'.out g7);have BA1':=zH (BA1.out.grow g7);have D0':=zH (D0.out.grow g7);have D2':=zH (D2.out.grow g7);have D3':=zH (D3.out.grow g7);have HK':=zH (AggR.grow HK.out g7);have GG':=zH (gbT GG.out g7);clear D0 D2 D3 HK GG;have D0:=D0';have D2:=D2';have D3:=D3';have HK:=HK';have GG:=GG';clear D0' D2' D3' HK' GG';clear g7 o7 ha4 BA1 AU1';have k0:=D0.out.cell 0;have k1:=D0.out.cell 1;simp at k0 k1;have q0:=fun o=>kA k0 o;have q1:=fun o=>kA k1 o;have q0':=fun o o'=>kA (kA k0 o) o';have q1':=fun o o'=>kA (kA k1 o) o';go_wp2_with fail;clear k0 k1 q0 q1 q0' q1';have ga:=gbA (gbA (gbR w7 none) (.cells #[.slice A2 n2 c2,.slice B2 m2 d2] 80)) (.cells #[.int .i64 s,.int .i64 (a4:Int)] 41);obtain ⟨wq,hwp⟩:∃y:World,(w7.alloc (.cells #[.slice A2 n2 c2,.slice B2 m2 d2] 80)).alloc (.cells #[.int .i64 s,.int .i64 (a4:Int)] 41)=y:=⟨_,rfl⟩;have BA2:Hid (Blk wq w7.heap.size 80 #[.slice A2 n2 c2,.slice B2 m2 d2]):=by rw [← hwp];exact zH ((Blk.new w7 _ _).grow (gbA (gbR _ _) _))
  have BT:Hid (Blk wq (w7.heap.size+1) 41 #[.int .i64 s,.int .i64 a4]):=by rw [← hwp];exact zH (Blk.new' _ _ _ _ (by simp))
  have zq:w7.heap.size+2≤wq.heap.size:=by rw [← hwp];simp
  rw [hwp] at ga ⊢;have BA1:=zH (BA1'.out.grow ga);have AU1':=zH (autF.grow AU1.out ga);have AU2':=zH (autF.grow AU2.out ga);have D0':=zH (D0.out.grow ga);have D2':=zH (D2.out.grow ga);have D3':=zH (D3.out.grow ga);have HK':=zH (AggR.grow HK.out ga);have GG':=zH (gbT GG.out ga);clear D0 D2 D3 HK GG;have D0:=D0';have D2:=D2';have D3:=D3';have HK:=HK';have GG:=GG';clear D0' D2' D3' HK' GG';clear ga hwp BA1' AU1 AU2;obtain ⟨a5,ha5⟩:∃z,a4+(al.length - 1)+(al.length - 1)=z:=⟨_,rfl⟩;have Ha5:=zH ha5;obtain ⟨XY,hXY⟩:∃z,((x1:Int)*(y1:Int)) % (P:Int)=z:=⟨_,rfl⟩;have HXY:=zH hXY;have EXY:Hid (elemB (P:Int) XY=true):=by rw [← hXY];exact zH (Yg KF.out _)
  obtain ⟨g10,hg10⟩:∃g,w6.heap.size=g:=⟨_,rfl⟩;obtain ⟨g12,hg12⟩:∃g,w7.heap.size=g:=⟨_,rfl⟩;rw [hg10] at BA1;rw [hg12] at BA2 BT zq;rw [hg12];rw [hg10];clear ha5 hXY;refine Xz (TTN wq.heap.size w0.heap.size P x1 y1 XY (.agg #[.int .i64 P,.slice A al.length c]) s a4 a5 (ZL ⟨P,al⟩ P s a4 XY)) [] (by kernel_rfl) (by kernel_rfl) (by kernel_rfl) TTN_st ?_ ?_
  · simp only [hops6,and_true]
    refine ⟨?_, ?_, ?_, ?_, ?_, ?_, ?_, ?_, ?_, ?_, ?_, ?_, ?_, ?_, ?_⟩;rotate_left 5
    · intro f w4 hG pre old hd
      simp [depsF,bindE,List.filter_cons,Zz,Zq,Zr,Zs,ZA,ZW,TTN,fAt,Zy,isV] at hd;simp [puts,dsts,Act.put,hd];clear hd hG pre old;go_wp2_with fail;refine (WE P x1 y1 _ EX.out EY.out).mono ?_;rintro e w10 ⟨rfl,g10'⟩;rw [HXY.out];have G10:=zH g10';clear g10';go_wp2_with fail;exact ⟨_,rfl,by simp [TTN,fAt,Zy,Zn,isV],Or.inl G10.out⟩
    rotate_left 1
    · intro f w4 hG pre old hd
      have hGx:Chg (fun _=>False) wq w4:=chgDr (hG.mono (fun b hb=>by obtain ⟨s,hs⟩:=hb;cases hs));have hz4:=hGx.size;have K4:=zH (ckeys_chg HK.out hGx (fun b hb e=>e));simp [depsF,bindE,List.filter_cons,Zz,Zq,Zr,Zs,ZA,ZW,TTN,fAt,Zy,isV] at hd;simp [puts,dsts,Act.put,hd];clear hd hG pre old hGx;go_wp2_with fail;refine (Vm al P s a4 a5 XY _ w4 K4.out WK.out KB.out EXY.out hs (by omega) Ha5.out).mono ?_;rintro e w10 ⟨A9,n9,c9,B9,k9,d9,rfl,o9,g9⟩;have O9:=zH (autF.lo o9 hz4);have G9:=zH g9;clear o9 g9;go_wp2_with fail;exact ⟨_,rfl,⟨A9,n9,c9,B9,k9,d9,rfl,O9.out⟩,Or.inl G9.out⟩
    · intro f w4 hG pre old hd
      simp [depsF,bindE,List.filter_cons,Zz,Zq,Zr,Zs,ZA,ZW,TTN,fAt,Zy,isV] at hd;obtain ⟨A9,n9,c9,B9,k9,d9,e67,h67⟩:=hd;have h67:=zH h67;simp [puts,dsts,Act.put,e67];clear hG pre old;go_wp2_with fail;exact ⟨_,rfl,⟨A9,n9,c9,B9,k9,d9,rfl,h67.out⟩,Or.inl (gbR _ _)⟩
    · intro f w4 hG pre old hd
      simp [depsF,bindE,List.filter_cons,Zz,Zq,Zr,Zs,ZA,ZW,TTN,fAt,Zy,isV] at hd;obtain ⟨A9,n9,c9,B9,k9,d9,e67,h67⟩:=hd;have h67:=zH h67;simp [puts,dsts,Act.put,e67];clear hG pre old;go_wp2_with fail;exact ⟨_,rfl,⟨A9,n9,c9,B9,k9,d9,rfl,h67.out⟩,Or.inl (gbR _ _)⟩
    · intro f w4 hG pre old hd
      simp [depsF,bindE,List.filter_cons,Zz,Zq,Zr,Zs,ZA,ZW,TTN,fAt,Zy,isV] at hd;obtain ⟨A9,n9,c9,B9,k9,d9,e67,h67⟩:=hd;clear h67;simp [puts,dsts,Act.put,e67];clear hG pre old;go_wp2_with fail;exact ⟨_,rfl,by simp [TTN,fAt,Zy,Zn,isV],Or.inl (gbR _ _)⟩
    · intro f w4 hG pre old hd
      have hz4:=hG.size;simp at hz4;clear hd hG pre old;simp [puts,dsts,Act.put];go_wp2_with fail;exact ⟨_,rfl,⟨_,_,_,rfl,hz4,Blk.new _ _ _⟩,Or.inl (gbA (gbR _ _) _)⟩
    · intro f w4 hG pre old hd
      have hz4:=hG.size;simp at hz4;clear hd hG pre old;simp [puts,dsts,Act.put];go_wp2_with fail;exact ⟨_,rfl,⟨_,_,_,rfl,hz4,Blk.new _ _ _⟩,Or.inl (gbA (gbR _ _) _)⟩
    · intro f w4 hG pre old hd
      simp [depsF,bindE,List.filter_cons,Zz,Zq,Zr,Zs,ZA,ZW,TTN,fAt,Zy,isV] at hd;obtain ⟨⟨g9,u0,u1,e14,hg9,R4⟩,⟨A9,n9,c9,B9,k9,d9,e68,-⟩,-⟩:=hd;have f0:=R4.frozen 0;have f1:=R4.frozen 1;have b0:=R4.cell 0;have b1:=R4.cell 1;simp at b0 b1;have CH:=Za g9 [.slice A9 n9 c9,.slice B9 k9 d9] 0 w4;have RS:=Zd R4 [.slice A9 n9 c9,.slice B9 k9 d9] rfl;have hK:=TTN_keep (lo:=wq.heap.size) (gK:=w0.heap.size) (p:=P) (x:=x1) (y:=y1) (z:=XY) (kv:=.agg #[.int .i64 P,.slice A al.length c]) (s:=s) (a:=a4) (a':=a5) (m:=ZL ⟨P,al⟩ P s a4 XY) (f:=f) (j:=13) CH R4 RS (.inl ⟨rfl,rfl⟩);have CM:=CH.mono (T:=fun b=>wq.heap.size≤b) (fun z hz=>by have hz:z=_:=hz;subst hz;exact hg9);simp only [Zm,Nat.zero_add,Nat.reduceAdd] at hK CM;have HK9:=zH hK;have HCM:=zH CM;have HRS:=zH RS;clear CH hK CM RS R4 hG pre old;simp [puts,dsts,Act.put,e14,e68];go_wp2_with fail;exact ⟨rfl,⟨.bool false,by show boxV _ _ [f 14,f 68] _;rw [e14,e68];exact ⟨g9,_,_,rfl,hg9,HRS.out⟩⟩,Or.inr ⟨by simpa using HCM.out,HK9.out⟩⟩
    · intro f w4 hG pre old hd
      simp [depsF,bindE,List.filter_cons,Zz,Zq,Zr,Zs,ZA,ZW,TTN,fAt,Zy,isV] at hd;obtain ⟨⟨g9,u0,u1,e15,hg9,R4⟩,e69,-⟩:=hd;have f0:=R4.frozen 0;have f1:=R4.frozen 1;have b0:=R4.cell 0;have b1:=R4.cell 1;simp at b0 b1;have CH:=Za g9 [.int .i64 s,.int .i64 a5] 0 w4;have RS:=Zd R4 [.int .i64 s,.int .i64 a5] rfl;have hK:=TTN_keep (lo:=wq.heap.size) (gK:=w0.heap.size) (p:=P) (x:=x1) (y:=y1) (z:=XY) (kv:=.agg #[.int .i64 P,.slice A al.length c]) (s:=s) (a:=a4) (a':=a5) (m:=ZL ⟨P,al⟩ P s a4 XY) (f:=f) (j:=14) CH R4 RS (.inr ⟨rfl,rfl⟩);have CM:=CH.mono (T:=fun b=>wq.heap.size≤b) (fun z hz=>by have hz:z=_:=hz;subst hz;exact hg9);simp only [Zm,Nat.zero_add,Nat.reduceAdd] at hK CM;have HK9:=zH hK;have HCM:=zH CM;have HRS:=zH RS;clear CH hK CM RS R4 hG pre old;simp [puts,dsts,Act.put,e15,e69];go_wp2_with fail;exact ⟨rfl,⟨.bool false,by show boxV _ _ [f 15,f 69] _;rw [e15,e69];exact ⟨g9,_,_,rfl,hg9,HRS.out⟩⟩,Or.inr ⟨by simpa using HCM.out,HK9.out⟩⟩
    all_goals
      intro f w4 hG pre old hd;have hGx:Chg (fun _=>False) wq w4:=chgDr (hG.mono (fun b hb=>by obtain ⟨s,hs⟩:=hb;cases hs));have k0:=(D0.out.chg hGx (by simp)).cell 0;have k1:=(D0.out.chg hGx (by simp)).cell 1;have k2:=(BT.out.chg hGx (by simp)).cell 0;have k3:=(BT.out.chg hGx (by simp)).cell 1;simp at k0 k1 k2 k3;clear hGx hG pre old;simp [depsF,bindE,List.filter_cons,Zz,Zq,Zr,Zs,ZA,ZW,TTN,fAt,Zy,isV] at hd
      first | simp [puts,dsts,Act.put,hd] | simp [puts,dsts,Act.put]
      try clear hd
      go_wp2_with fail;exact ⟨_,rfl,by simp [TTN,fAt,Zy,Zn,isV],Or.inl (gbR _ _)⟩
  intro f w8 hG hd;have h9:=Yh hd (i:=9) rfl;have h13:=Yh hd (i:=13) rfl;have h14:=Yh hd (i:=14) rfl;have h10:=Yh hd (i:=10) rfl;have h9:autV wq.heap.size (ZL ⟨P,al⟩ P s a4 XY) (f 68) w8:=h9;have h10:f 69=.agg #[.int .i64 s,.int .i64 a5]:=h10;have h13:boxV wq.heap.size 80 [f 14,f 68] w8:=h13;have h14:boxV wq.heap.size 41 [f 15,f 69] w8:=h14;obtain ⟨A3,n3,c3,B3,m3,d3,e68,au⟩:=h9;rw [e68] at h13;rw [h10] at h14;obtain ⟨g14,u0,u1,e14,hg14,R14⟩:=h13;obtain ⟨g15,v0,v1,e15,hg15,R15⟩:=h14;simp only [List.cons.injEq,and_true] at e14 e15;obtain ⟨e14,e14'⟩:=e14;obtain ⟨e15,e15'⟩:=e15;injection e14' with e14';injection e14' with e14';injection e14' with q0 e14';injection e14' with q1 _;injection e15' with e15';injection e15' with e15';injection e15' with q2 e15';injection e15' with q3 _;rw [← q0,← q1] at R14;rw [← q2,← q3] at R15;clear q0 q1 q2 q3;have hGx:Chg (fun _=>False) wq w8:=chgDr (hG.mono (fun b hb=>by obtain ⟨s,hs⟩:=hb;cases hs));have hgx:wq.grownBy w8 none:=⟨hGx.os,hGx.tape,hGx.output,hGx.size,fun i hi _=>hGx.block i hi (fun h=>h)⟩;have AU1z:=zH (autF.grow AU1'.out hgx);have AU2z:=zH (autF.grow AU2'.out hgx);have AU3z:=zH au;have DA:=zH (D2.out.grow hgx);have DT:=zH (D3.out.grow hgx);have X10:=zH (BA1.out.grow hgx);have X12:=zH (BA2.out.grow hgx);have X14:=zH R14;have X15:=zH R15;have G9:=zH (gbT GG.out hgx);simp only [puts,dsts,Act.put,e14,e15,zB,zC,zA,zD,zE];clear hd hG hGx hgx au R14 R15 e14 e15 e68 h10 AU1' AU2' D0 D2 D3 BA1 BA2 BT GG HK;go_wp2_with fail;obtain ⟨gA,hgA⟩:∃g,w0.heap.size+1+1=g:=⟨_,rfl⟩;obtain ⟨gU,hgU⟩:∃g,w0.heap.size+1+1+1=g:=⟨_,rfl⟩;rw [hgU] at DT ⊢;rw [hgA] at DA ⊢;have hAU1:gA<gU:=by omega
  have hg1:gU<g10:=by omega
  have hg2:gU<g12:=by omega
  have hg3:gU<g14:=by omega
  have hg4:gU<g15:=by omega
  have hw0:w0.heap.size≤gA:=by omega
  clear hgA hgU
  refine Zg [.rd (.agg #[.slice A1 n1' c1,.slice B1 m1 d1]),.rd (.agg #[.slice A2 n2 c2,.slice B2 m2 d2]),.rd (.agg #[.slice A3 n3 c3,.slice B3 m3 d3]),.rd (.agg #[.slice A1 n1' c1,.slice B1 m1 d1,.slice A2 n2 c2,.slice B2 m2 d2,.slice A3 n3 c3,.slice B3 m3 d3]),.rd (.agg #[.int .i64 s,.int .i64 (a5:Int)]),.ch,.ch] (fun z=>z=gA)
    [⟨[],fun _ w'=>w'=w8.drew⟩,
     ⟨[],fun _ w'=>Blk w' gA 82 #[.slice A1 n1' c1,.slice B1 m1 d1,.slice A2 n2 c2,.slice B2 m2 d2,.slice A3 n3 c3,.slice B3 m3 d3]∧Chg (fun z=>z=gA) w8.drew w'⟩,
     ⟨[],fun _ w'=>Blk w' gA 82 #[.slice A1 n1' c1,.slice B1 m1 d1,.slice A2 n2 c2,.slice B2 m2 d2,.slice A3 n3 c3,.slice B3 m3 d3]∧Blk w' gU 41 #[.int .i64 s,.int .i64 (a5:Int)]∧Chg (fun z=>z=gA∨z=gU) w8.drew w'⟩]
    (by kernel_rfl) (by kernel_rfl) (by kernel_rfl) 2 (by kernel_rfl) (by simp only [flOk,and_true]) rfl rfl ?_ ?_
  · simp only [hopsK,hopK,Kd.next,and_true]
    refine ⟨?_, ?_, ?_, ?_, ?_, ?_, ?_⟩;rotate_left 3
    · intro f w10 hG hd
      (try simp at hd)
      (first | simp [puts,dsts,Act.put,hd] | simp [puts,dsts,Act.put])
      clear hd;go_wp2_with fail;exact ⟨rfl,rfl⟩
    rotate_left 1
    · intro f w10 hG hI hd
      have hI:w10=w8.drew:=hI;subst hI
      (try simp at hd)
      have e73:=hd.1;have R4:=DA.out.grow (gbD (gbR w8 none));have f0:=R4.frozen 0;have f1:=R4.frozen 1;have f2:=R4.frozen 2;have f3:=R4.frozen 3;have f4:=R4.frozen 4;have f5:=R4.frozen 5;have g0:=DA.out.frozen 0;have g1:=DA.out.frozen 1;have g2:=DA.out.frozen 2;have g3:=DA.out.frozen 3;have g4:=DA.out.frozen 4;have g5:=DA.out.frozen 5;have b0:=R4.cell 0;have b1:=R4.cell 1;have b2:=R4.cell 2;have b3:=R4.cell 3;have b4:=R4.cell 4;have b5:=R4.cell 5;simp at b0 b1 b2 b3 b4 b5;have RS:=zH ((Zd DA.out [.slice A1 n1' c1,.slice B1 m1 d1,.slice A2 n2 c2,.slice B2 m2 d2,.slice A3 n3 c3,.slice B3 m3 d3] rfl).grow (gbD (gbR _ _)));have CH:=zH (chgDD (Za gA [.slice A1 n1' c1,.slice B1 m1 d1,.slice A2 n2 c2,.slice B2 m2 d2,.slice A3 n3 c3,.slice B3 m3 d3] 0 w8));simp only [Zm,Nat.zero_add,Nat.reduceAdd] at RS CH;clear hd R4;simp [puts,dsts,Act.put,e73];go_wp2_with fail;exact ⟨rfl,⟨.bool false,RS.out,CH.out⟩,CH.out,by simp [keepsC]⟩
    · intro f w10 hG hI hd
      obtain ⟨B2,C2⟩:=hI;have C2:Chg (fun z=>z=gA) w8.drew w10:=C2
      (try simp at hd)
      have e74:=hd.1;have R4:=(DT.out.grow (gbD (gbR w8 none))).chg C2 (by omega);have f0:=R4.frozen 0;have f1:=R4.frozen 1;have b0:=R4.cell 0;have b1:=R4.cell 1;simp at b0 b1;have RS:=zH (Zd R4 [.int .i64 s,.int .i64 (a5:Int)] rfl);have CH:=Za gU [.int .i64 s,.int .i64 (a5:Int)] 0 w10;have BS:=zH (B2.chg CH (by omega));have CS:=zH ((C2.mono (T:=fun z=>z=gA∨z=gU) (fun z h=>.inl h)).trans (CH.mono (fun z h=>.inr h)));clear hd R4 B2 C2 CH;simp [puts,dsts,Act.put,e74];go_wp2_with fail;exact ⟨rfl,.bool false,BS.out,RS.out,CS.out⟩
    all_goals
      intro f w10 hG hd;have hG:Chg (fun z=>z=gA) w8.drew w10:=hG;have k0:=((X10.out.grow (gbD (gbR w8 none))).chg hG (by omega)).cell 0;have k1:=((X10.out.grow (gbD (gbR w8 none))).chg hG (by omega)).cell 1;have k2:=((X12.out.grow (gbD (gbR w8 none))).chg hG (by omega)).cell 0;have k3:=((X12.out.grow (gbD (gbR w8 none))).chg hG (by omega)).cell 1;have k4:=((X14.out.grow (gbD (gbR w8 none))).chg hG (by omega)).cell 0;have k5:=((X14.out.grow (gbD (gbR w8 none))).chg hG (by omega)).cell 1;have k6:=((X15.out.grow (gbD (gbR w8 none))).chg hG (by omega)).cell 0;have k7:=((X15.out.grow (gbD (gbR w8 none))).chg hG (by omega)).cell 1;simp at k0 k1 k2 k3 k4 k5 k6 k7;clear hd;simp [puts,dsts,Act.put];go_wp2_with fail;exact ⟨rfl,rfl⟩
  intro f w14 hI hd;obtain ⟨BA,BU,C3⟩:=hI;have C3:=chgDr C3;have Q1:=zH (autF.far2 AU1z.out DA.out DT.out C3);have Q2:=zH (autF.far2 AU2z.out DA.out DT.out C3);have Q3:=zH (autF.far2 AU3z.out DA.out DT.out C3);have GZ:=zH (gbChg G9.out C3 (fun z hz=>by rcases hz with hz | hz <;> omega));clear hd;simp only [puts,dsts,Act.put,zB,zC,zA,zD,zE];go_wp2_with fail;refine ret_cc Tryz.results45 (by rfl) stTriple (cs:=#[.slice A1 n1' c1,.slice B1 m1 d1,.slice A2 n2 c2,.slice B2 m2 d2,.slice A3 n3 c3,.slice B3 m3 d3]) BA (by rfl) (by rfl) stTape (ds:=#[.int .i64 s,.int .i64 (a5:Int)]) BU (by rfl) (by rfl) ?_
  have e:Ys ⟨(P:Int),al⟩ P s a=⟨ZL ⟨(P:Int),al⟩ P s a2 x1,ZL ⟨(P:Int),al⟩ P s a3 y1,ZL ⟨(P:Int),al⟩ P s a4 XY⟩:=by
    have q1:a+2=a2:=by have:=Ha1.out;have:=Ha2.out;omega
    have q2:a+2+2*(al.length - 1)=a3:=by have:=Ha3.out;omega
    have q3:a+2+4*(al.length - 1)=a4:=by have:=Ha3.out;have:=Ha4.out;omega
    have q4:tnA s a P=x1:=Hx1.out;have q5:tnB s a P=y1:=by unfold tnB;rw [Ha1.out];exact Hy1.out
    unfold Ys;simp only;rw [q2,q3,q1,q4,q5,HXY.out]
  refine ⟨.agg #[.slice A1 n1' c1,.slice B1 m1 d1,.slice A2 n2 c2,.slice B2 m2 d2,.slice A3 n3 c3,.slice B3 m3 d3], ?_, ?_,GZ.out⟩
  · have q:a+2+6*(al.length - 1)=a5:=by have:=Ha1.out;have:=Ha2.out;have:=Ha3.out;have:=Ha4.out;have:=Ha5.out;omega
    rw [q]
  · rw [e]
    exact ⟨_,rfl,OwnB.append (OwnB.aut (vs:=[_,_]) (autF.lo Q1.out (by omega))) (OwnB.append (OwnB.aut (vs:=[_,_]) (autF.lo Q2.out (by omega))) (OwnB.aut (vs:=[_,_]) (autF.lo Q3.out (by omega))))⟩
end Go.Proofs.YthaadgdeadbhkaaGreat
