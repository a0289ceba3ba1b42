/-
  EngineNew of the program: where it gives an engine.
-/
import Derived.Test.YthaadgdeadbhkaaGreatMgFnExactCountOutcomes27
import Derived.Test.YthaadgdeadbhkaaGreatMgFnExactCountOutcomes25
open Go.RowKit
set_option linter.unusedVariables false
set_option linter.unusedSimpArgs false
namespace Go.Proofs.YthaadgdeadbhkaaGreat
attribute [local simp] depsC dstAt kAt bindE List.filter_cons Zz Zq Zr Zs ZA ZW depsF fAt Zy isV puts dsts Act.put
theorem Qn {k:KM} {c:AM} {ins:List Int} {s a:Int} (h:newB k c ins s a=true):keysB k=true∧AOk c∧k.p=c.p∧ins.length=60∧elemsB c.p ins=true∧tapeB s a=true∧a≤900000:=by
  unfold newB at h;simp only [Bool.and_eq_true,beq_iff_eq,Bool.not_eq_true',decide_eq_false_iff_not] at h;obtain ⟨⟨⟨⟨⟨⟨h1,h2⟩,h3⟩,h4⟩,h5⟩,h6⟩,h7⟩:=h;exact ⟨h1,WI h2,h3,by omega,h5,h6,by omega⟩
theorem awf_initV {k:KM} {c:AM} {P s:Nat} {ins:List Int} (hk:keysB k=true) (i:Nat):awf (initV k c P s ins i):=by
  obtain ⟨_,_,n1,n5⟩:=Yc hk;unfold initV
  split
  · refine ⟨?_, ?_⟩ <;> (unfold ZL;simp only;rw [Qd,Kx];omega)
  · split
    · exact awf_const ⟨by simp [zerosA];omega,by simp [zerosA];omega⟩
    · exact Jr
theorem Ja {k:KM} {c:AM} {P s:Nat} {ins:List Int} (hk:keysB k=true):∀a∈initL k c P s ins,awf a:=by
  intro a ha;unfold initL at ha;obtain ⟨i,_,rfl⟩:=List.mem_map.1 ha;exact awf_initV hk i
def aTupE (lo:Nat) (m:AuM) (v:Value) (w:World):Prop:=∃t,aTup lo m t v w
theorem Kg {lo:Nat} {m:AuM}:stable (aTupE lo m):=fun v w w' ⟨t,h⟩ hg=>⟨t,Jy _ _ _ h hg⟩
theorem UQ {lo g:Nat} {m:AuM} {v:Value} {w w':World} (h:aTupE lo m v w) (q:Chg (fun y=>y=g) w w') (hg:g<lo):aTupE lo m v w':=by
  obtain ⟨t,h⟩:=h;exact ⟨t,aTup_chg h q hg⟩
def zroF (n:Nat) (v:Value) (w:World):Prop:=∃A c B d,v=.agg #[.slice A n c,.slice B n d]∧AggR w (cauth (zerosA n)) (.agg #[.slice A n c,.slice B n d])
theorem zroF_st {n:Nat}:stable (zroF n):=fun v w w' ⟨A,c,B,d,h1,h2⟩ hg=>⟨A,c,B,d,h1,h2.grow hg⟩
theorem zroF.of {lo lo' n:Nat} {A B:Option Addr} {c d:Nat} {w:World} (h:w.ownsRow lo 3 1 (.slice A n c) n ((List.replicate n 0).map (Value.int .i64))) (k:w.ownsRow lo' 3 1 (.slice B n d) n ((List.replicate n 0).map (Value.int .i64))):zroF n (.agg #[.slice A n c,.slice B n d]) w :=
  ⟨A,c,B,d,rfl,VM (CS.toRd _ (Ya h)) (CS.toRd _ (Ya k))⟩
set_option maxHeartbeats 4000000 in
set_option maxRecDepth 100000 in
theorem WW (k:KM) (c:AM) (P s a:Nat) (I:Option Addr) (ci:Nat) (ins:List Int) (kv cv:Value) (w0:World) (h:AggR w0 (ckeys k) kv) (hc:AggR w0 (carith c) cv) (hi:Ints w0 I 60 ins) (wk:kwf k) (wc:amwf c) (hP:k.p=P) (hb:newB k c ins s a=true) :
    Calls Tryz.prog 50 #[kv,cv,.slice I 60 ci,.agg #[.int .i64 s,.int .i64 a]] w0 fun e w'=>∃v,e=.returned (.tuple #[v,.bool true])∧aggF w0.heap.size (Zf (engNew k c P s ins)) v w'∧w0.grownBy w' none:=by
  obtain ⟨hk,hok,hpp,hl,hel,htp,ha9⟩:=Qn hb;obtain ⟨_,_,hs0,ha0,hs1,ha1⟩:=Vr htp;obtain rfl:s=_:=Int.ofNat.inj hs0;obtain rfl:a=_:=Int.ofNat.inj ha0;obtain ⟨KA,kc,rfl,_,_,_⟩:=ZG h;obtain ⟨u1,u2,rfl,c1,c2⟩:=Zt hc;obtain ⟨A1,n1,rfl,_,_,hF⟩:=ZP (s:=3) (fun _=>rfl) (by omega) c1;obtain ⟨A2,n2,rfl,_,_,_⟩:=Zx c2;obtain ⟨w1,hw1⟩:∃y:World,(((w0.alloc (.cells #[.int .i64 k.p,.slice KA k.al.length kc] 34)).alloc (.cells #[.int .i64 c.p,.slice A1 c.st.length n1,.slice A2 c.outs.length n2] 38)).alloc (.cells #[.int .i64 s,.int .i64 a] 41)).alloc (.cells #[.int .i64 0,.slice none 0 0,.int .i64 0,.slice none 0 0,.slice none 0 0,.slice none 0 0,.slice none 0 0,.int .i64 0,.bool false] 58)=y:=⟨_,rfl⟩;have GB:Hid (w0.grownBy w1 none):=by rw [← hw1];exact gbA (gbA (gbA (gbA (gbR _ _) _) _) _) _
  have z1:Hid (w1.heap.size=w0.heap.size+4):=by rw [← hw1];exact zH (by simp)
  have D0:Hid (Blk w1 w0.heap.size 34 #[.int .i64 k.p,.slice KA k.al.length kc]):=by rw [← hw1];exact (((Blk.new w0 _ _).grow (gbA (gbR _ _) _)).grow (gbA (gbR _ _) _)).grow (gbA (gbR _ _) _)
  have D1:Hid (Blk w1 (w0.heap.size+1) 38 #[.int .i64 c.p,.slice A1 c.st.length n1,.slice A2 c.outs.length n2]):=by rw [← hw1];exact ((Blk.new' _ _ _ _ (by simp)).grow (gbA (gbR _ _) _)).grow (gbA (gbR _ _) _)
  have D2:Hid (Blk w1 (w0.heap.size+1+1) 41 #[.int .i64 s,.int .i64 a]):=by rw [← hw1];exact (Blk.new' _ _ _ _ (by simp)).grow (gbA (gbR _ _) _)
  have D8:Hid (Blk w1 (w0.heap.size+1+1+1) 58 #[.int .i64 0,.slice none 0 0,.int .i64 0,.slice none 0 0,.slice none 0 0,.slice none 0 0,.slice none 0 0,.int .i64 0,.bool false]):=by rw [← hw1];exact Blk.new' _ _ _ _ (by simp)
  have HK:=zH (AggR.grow h GB.out);have HC:=zH (AggR.grow hc GB.out);have HI:=zH (hi.grow GB.out);have HF:=zH (FL.grow hF GB.out);have WK:=zH wk;have WC:=zH wc;have KB:=zH hk;have OK:=zH hok;have AB:=zH (Yq hok);have TB:=zH htp;have EB:=zH hel;have HPP:=zH hpp;have LI:=zH hl;have HHP:=zH hP;obtain ⟨n,hn⟩:∃n,c.st.length=n:=⟨_,rfl⟩;have hn60:n≤60:=by have:=hok.few;omega
  have LN:=zH hn;obtain ⟨_,_,l1,l5⟩:=Yc hk;have d3:(k.p != c.p)=false:=by rw [hpp];simp
  have d9:¬(900000:Int)<(a:Int):=by omega
  have hcp:=WC.out.wf.1;obtain ⟨hcp1,hcp2⟩:=hcp;rw [hn] at D1 hw1;clear h hc hi wk wc c1 c2 hb hk hok htp hel hpp hl hF hP hn
  go_enter Tryz.func50,Tryz.ntmps50
  rw [LN.out];have k0:=D0.out.cell 0;have k1:=D0.out.cell 1;have x0:=D1.out.cell 0;have x1:=D1.out.cell 1;have x2:=D1.out.cell 2;have y0:=D2.out.cell 0;have y1:=D2.out.cell 1;simp at k0 k1 x0 x1 x2 y0 y1;go_wp2_with fail;obtain ⟨gR,hgR'⟩:∃g,w0.heap.size+1+1+1=g:=⟨_,rfl⟩;have hgR:w0.heap.size≤gR:=by omega
  have hgR1:gR<w1.heap.size:=by have:=z1.out;omega
  rw [hgR'] at D8 ⊢;clear hgR' hw1 k0 k1 x0 x1 x2 y0 y1;refine (YQ k _ _ HK.out WK.out).mono ?_;rintro e w2 ⟨rfl,g2⟩;rw [KB.out];have x0:=(D1.out.grow g2).cell 0;have x1:=(D1.out.grow g2).cell 1;have x2:=(D1.out.grow g2).cell 2;simp at x0 x1 x2;have G2:=zH g2;clear g2;go_wp2_with fail;clear x0 x1 x2;have HC2:=zH (AggR.grow HC.out G2.out);rw [LN.out] at HC2;refine (ZU c _ _ HC2.out WC.out.wf).mono ?_;rintro e w3 ⟨rfl,g3⟩;rw [AB.out];have g3:=gbT G2.out g3;clear G2 HC2;have G3:=zH g3;have k0:=(D0.out.grow g3).cell 0;have x0:=(D1.out.grow g3).cell 0;simp at k0 x0;clear g3;go_wp2_with fail;clear k0 x0;refine (Zp c.p I 60 ci ins w3 hcp2 hcp1 (HI.out.grow G3.out) (by omega)).mono ?_;rintro e w4 ⟨rfl,rfl⟩;rw [EB.out];have y0:=(D2.out.grow G3.out).cell 0;have y1:=(D2.out.grow G3.out).cell 1;simp at y0 y1;go_wp2_with fail;clear y0 y1;refine (Yj s a _).mono ?_;rintro e wq ⟨rfl,g4⟩;rw [TB.out];have g4:=gbT G3.out g4;have y1:=(D2.out.grow g4).cell 1;simp at y1;have G4:=zH g4;clear g4 G3;go_wp2_with fail;clear y1;have B0:=zH (D0.out.grow G4.out);have B1:=zH (D1.out.grow G4.out);have k0:=B0.out.cell 0;have k1:=B0.out.cell 1;have x0:=B1.out.cell 0;have x1:=B1.out.cell 1;have x2:=B1.out.cell 2;simp at k0 k1 x0 x1 x2;have K0:=zH k0;have K1:=zH k1;have X0:=zH x0;have X1:=zH x1;have X2:=zH x2;clear k0 k1 x0 x1 x2;have hlz:=G4.out.size
  refine Zg [.rd (.agg #[.int .i64 k.p,.slice KA k.al.length kc]),.ch,.rd (.agg #[.int .i64 c.p,.slice A1 n n1,.slice A2 c.outs.length n2]),.ch,.rd (.pointer (some ⟨w0.heap.size+1,1,none⟩)),.rd (.slice A1 n n1),.rd (.int .i64 n),.fl (valF wq.heap.size n),.ch,.fl (isBox wq.heap.size 58 #[.int .i64 0,.slice none 0 0,.int .i64 0,.slice none 0 0,.slice none 0 0,.slice none 0 0,.slice none 0 0,.int .i64 0,.bool false]),.ch] (fun _=>False)
    [⟨[],fun _ w'=>wq.drew.grownBy w' none⟩,
     ⟨[53],fun l w'=>keyL wq.heap.size k (l.getD 0 undef) w'⟩,
     ⟨[53,55],fun l w'=>keyArL wq.heap.size k c (l.getD 0 undef) (l.getD 1 undef) w'⟩,
     ⟨[60],fun l w'=>engZ wq.heap.size (engN k c n) (l.getD 0 undef) w'⟩,
     ⟨[10],fun l w'=>∃g,l.getD 0 undef=.pointer (some ⟨g,0,none⟩)∧wq.heap.size≤g∧sofF wq.heap.size 58 (Zf (engN k c n)) g w'∧wq.grownBy w' none⟩]
    (by kernel_rfl) (by kernel_rfl) (by kernel_rfl) 4 (by kernel_rfl) ?_ (gbR _ _) rfl ?_ ?_
  · have hst:Zw [⟨[],fun _ w'=>wq.drew.grownBy w' none⟩,⟨[53],fun l w'=>keyL wq.heap.size k (l.getD 0 undef) w'⟩,⟨[53,55],fun l w'=>keyArL wq.heap.size k c (l.getD 0 undef) (l.getD 1 undef) w'⟩,⟨[60],fun l w'=>engZ wq.heap.size (engN k c n) (l.getD 0 undef) w'⟩,⟨[10],fun l w'=>∃g,l.getD 0 undef=.pointer (some ⟨g,0,none⟩)∧wq.heap.size≤g∧sofF wq.heap.size 58 (Zf (engN k c n)) g w'∧wq.grownBy w' none⟩]:=by
      refine Zc (fun l w1 w2 h hg=>gbT h hg) ?_;refine Zc (Zo fun l w1 w2 h hg=>h.grow hg) ?_;refine Zc (Zo fun l w1 w2 h hg=>h.grow hg) ?_;refine Zc (Zo fun l w1 w2 h hg=>h.grow hg) ?_;refine Zc (Zo fun l w1 w2 ⟨g,h1,h2,h3,h4⟩ hg=>⟨g,h1,h2,h3.grow hg,gbT h4 hg⟩) ZX
    simp only [flOk,true_and,and_true];exact ⟨⟨valF_st,hst⟩,⟨Xh _ _ _,hst⟩⟩
  · simp only [hopsK,hopK,Kd.next,and_true]
    refine ⟨?_, ?_, ?_, ?_, ?_, ?_, ?_, ?_, ?_, ?_, ?_⟩;rotate_left 1
    · intro f w4 hG hI hd
      have hg4:=gbT (gbD (gbR wq none)) (chgF hG);have hz4:=hg4.size
      (try simp at hd)
      (first | simp [hd] | simp)
      clear hd;go_wp2_with fail;refine (VZ k _ _ (AggR.grow HK.out (gbT G4.out hg4)) WK.out).mono ?_;rintro e w6 ⟨v6,rfl,o6,g6⟩;have O6:=zH (keyL.of (o6.lo hz4));have G6:=zH g6;clear o6 g6;go_wp2_with fail;exact ⟨_,rfl,O6.out,⟨Chg.of G6.out (by simp),by simp [keepsC,dstAt];exact ⟨fun h=>valF_st _ _ _ h G6.out,fun h=>Xh _ _ _ _ _ _ h G6.out⟩⟩⟩
    rotate_left 1
    · intro f w4 hG hI hd
      have hg4:=gbT (gbD (gbR wq none)) (chgF hG);have hz4:=hg4.size;have H8:Hid (keyL wq.heap.size k (f 53) w4):=hI;clear hI;have HC4:=zH (AggR.grow HC.out (gbT G4.out hg4));rw [LN.out] at HC4
      (try simp at hd)
      (first | simp [hd] | simp)
      clear hd;go_wp2_with fail;refine (Vx c _ _ HC4.out WC.out).mono ?_;rintro e w6 ⟨v6,rfl,o6,g6⟩;have O6:=zH (keyArL.of H8.out g6 o6 hz4);have G6:=zH g6;clear o6 g6;go_wp2_with fail;exact ⟨_,rfl,O6.out,⟨Chg.of G6.out (by simp),by simp [keepsC,dstAt];exact ⟨fun h=>valF_st _ _ _ h G6.out,fun h=>Xh _ _ _ _ _ _ h G6.out⟩⟩⟩
    rotate_left 3
    · intro f w4 hG hd
      have hg4:=gbT (gbD (gbR wq none)) (chgF hG);have hz4:=hg4.size
      (try simp at hd)
      (first | simp [hd] | simp)
      clear hd
      go_wp2_with (at_make;refine XK _ elAuth rfl _ _ rfl n rfl rfl (by omega) (by unfold maxLen;omega) ?_;intro w6 o6 g6)
      rw [show (Value.agg #[.slice none 0 0,.slice none 0 0]).cells=#[.slice none 0 0,.slice none 0 0] from rfl,KX] at o6;exact ⟨_,rfl,⟨_,rfl,hz4,cauths_made o6⟩,g6⟩
    · intro f w4 hG hI hd
      have hg4:=gbT (gbD (gbR wq none)) (chgF hG);have hz4:=hg4.size;have H8:keyArL wq.heap.size k c (f 53) (f 55) w4:=hI
      (try simp at hd)
      obtain ⟨A9,n9,c9,B9,q9,d9,C9,r9,e9,g9,e53,e55,e59,o7⟩:=engZ.of H8 (by first | exact hd | exact hd.2 | exact hd.1);have HA:=zH o7;clear o7 H8 hI hd;simp [puts,dsts,Act.put,e53,e55,e59];go_wp2_with fail;exact ⟨_,rfl,HA.out,⟨Chg.refl _ _,by simp [keepsC,dstAt]⟩⟩
    · intro f w4 hG hd
      have hg4:=gbT (gbD (gbR wq none)) (chgF hG);have hz4:=hg4.size;clear hd;simp [puts,dsts,Act.put];go_wp2_with fail;exact ⟨_,rfl,⟨_,rfl,hz4,Blk.new _ _ _⟩,gbA (gbR _ _) _⟩
    · intro f w4 hG hI hd
      have hg4:=gbT (gbD (gbR wq none)) (chgF hG);have hz4:=hg4.size;have o8:engZ wq.heap.size (engN k c n) (f 60) w4:=hI;obtain ⟨A,n9,c9,B,q,d,C,r,e,D,o,i,e8,F,o9,l9⟩:=o8
      (try simp at hd)
      obtain ⟨⟨g,e3,hg,R4⟩,hd⟩:=hd;obtain ⟨f0,f1,f2,f3,f4,f5,f6,f7,f8⟩:=R4.f9;obtain ⟨b0,b1,b2,b3,b4,b5,b6,b7,b8⟩:=R4.c9;have hgF:=WR (Yr _) o9 R4 (by decide);have RS:=SOF.store R4 (us:=[.int .i64 (engN k c n).k.p,.slice A n9 c9,.int .i64 (engN k c n).c.p,.slice B q d,.slice C r e,.slice D o i,.slice none 0 0,.int .i64 (engN k c n).rd,.bool (engN k c n).bad]) rfl o9 hgF;have GS:=Zu hg4 (Za g [.int .i64 (engN k c n).k.p,.slice A n9 c9,.int .i64 (engN k c n).c.p,.slice B q d,.slice C r e,.slice D o i,.slice none 0 0,.int .i64 (engN k c n).rd,.bool (engN k c n).bad] 0 _) hg;simp only [Zm,Nat.zero_add,Nat.reduceAdd] at RS GS;have RS:=zH RS;have GS:=zH GS;simp [puts,dsts,Act.put,e8,e3];clear hd R4;go_wp2_with fail;exact ⟨rfl,.bool false,g,e3,hg,⟨F,RS.out,l9⟩,GS.out⟩
    all_goals
      intro f w4 hG hd;have hg4:=gbT (gbD (gbR wq none)) (chgF hG);have k0:=gbk hg4 (K0.out);have k1:=gbk hg4 (K1.out);have k2:=gbk hg4 (X0.out);have k3:=gbk hg4 (X1.out);have k4:=gbk hg4 (X2.out)
      (try simp at hd)
      (first | simp [hd] | simp)
      clear hd;go_wp2_with fail;exact ⟨rfl,rfl⟩
  intro f w9 hI hd;simp only [puts,dsts,Act.put,zB,zC,zA,zD,zE];obtain ⟨g,e3,hg,hS,hG⟩:=hI;have e3:f 10=.pointer (some ⟨g,0,none⟩):=e3;rw [e3];have HS:=zH hS;have GG:=zH (gbT G4.out hG);have C0:=zH (gbk hG K0.out);have C1:=zH (gbk hG K1.out);have Y1:=zH (gbk hG X1.out);have hlz9:=GG.out.size;obtain ⟨lo,hlo⟩:∃x,w1.heap.size=x:=⟨_,rfl⟩;have hlow:lo≤wq.heap.size:=by omega
  have k1:=C1.out;have x1:=Y1.out;clear hd e3 hS hG B0 B1 K0 K1 X0 X1 X2;go_wp2_with fail;clear k1 x1;have hnil:fillV k c P s ins 0=List.replicate n noA:=by rw [fillV_zero,LN.out]
  go_loopw [67] (fun i wr=>∃(j:Nat) (F:List Nat),j≤n∧i=.int .i64 j∧Hid (SOF 58 (Zf ⟨k,c,fillV k c P s ins j,[],0,false⟩) g F wr)∧Hid (∀x∈F,lo≤x)∧Hid (w1.grownBy wr none)) (fun i _=>n - (intOf i).toNat)
  case atStart =>
    obtain ⟨F,h1,h2⟩:=HS.out;exact ⟨0,F,Nat.zero_le _,rfl,by rw [hnil];exact zH h1,zH (fun x hx=>by have:=h2 x hx;omega),GG⟩
  case round =>
    clear HS GG;obtain ⟨j,F,hj,rfl,SG,HL,HG⟩:=hrel
    by_cases hlt:j<n
    · have i1:(j:Int)<(n:Int):=by omega
      obtain ⟨D',d',F5,v5,f5,o5,m5,g5,lt5,_,up5⟩:=SG.out.val;have hlen:(fillV k c P s ins j).length=n:=by rw [fillV_len,LN.out]
      rw [show (EM.vs ⟨k,c,fillV k c P s ins j,[],0,false⟩)=fillV k c P s ins j from rfl] at v5 o5 up5;rw [hlen] at v5 o5 up5;obtain ⟨gv,rfl,hgv⟩:=WU o5 (by omega);obtain ⟨b,o,x,y,z,rfl,hb,hx,q0,q1,q2⟩:=YI (FL.grow HF.out HG.out) (k:=j) (by rw [LN.out];exact hlt);have hst:stAt c j=(x,y,z):=by simp [stAt,zF,hx]
      have hsb:=OK.out.steps j (by rw [LN.out];exact hlt);rw [hst] at hsb;have HSB:=zH hsb;have HST:=zH hst;have UP:=zH up5;have O5:=zH o5;have M5:=zH m5;have LT5:=zH lt5;have hgvl:=lt5 gv hgv;have hgl:=SG.out.ltg;clear hx hst hsb up5 o5 m5 lt5
      by_cases h1:x=1
      · subst h1
        go_wp2_with fail;obtain ⟨wy,hwy⟩:∃q:World,wr.alloc (.cells #[.int .i64 1,.int .i64 y,.int .i64 z] 102)=q:=⟨_,rfl⟩;have GY:Hid (wr.grownBy wy none):=by rw [← hwy];exact gbA (gbR _ _) _
        have BS:Hid (Blk wy wr.heap.size 102 #[.int .i64 1,.int .i64 y,.int .i64 z]):=by rw [← hwy];exact Blk.new _ _ _
        rw [hwy];clear hwy q0 q1 q2;have G1Y:=zH (gbT HG.out GY.out);have s1:=BS.out.cell 1;have k0:=(D0.out.grow G1Y.out).cell 0;have k1:=(D0.out.grow G1Y.out).cell 1;have t0:=(D2.out.grow G1Y.out).cell 0;have t1:=(D2.out.grow G1Y.out).cell 1;simp at s1 k0 k1 t0 t1;have S1:=zH s1;have K0:=zH k0;have K1:=zH k1;have T0:=zH t0;have T1:=zH t1;have V5:=zH (gbk GY.out v5);have hyz:=GY.out.size;clear s1 k0 k1 t0 t1 v5;have hin:=HSB.out;unfold stepB at hin;simp [inB] at hin;obtain ⟨yn,rfl⟩:=Int.eq_ofNat_of_zero_le (show 0≤y by omega);have hy60:yn<60:=by omega
        have i9:(yn:Int)<60:=by omega
        obtain ⟨ib,io,hIe,hib,hic⟩:=(HI.out.grow G1Y.out).at_ (by omega);subst hIe;have IN:=zH (hic yn hy60)
        have EV:Hid (elemB k.p (ins.getD yn 0)=true):=by
          have h5:=KH EB.out yn;rw [HPP.out];exact zH (Yi (ZI EB.out).1 h5.1 h5.2)
        have hin9:initV k c P s ins j=ZL k P (keyN s 9 j) 0 (ins.getD yn 0):=by
          unfold initV;rw [HST.out];simp
        obtain ⟨kn,hkn⟩:∃q,keyN s 9 j=q:=⟨_,rfl⟩;have hknl:kn<4294967296:=by rw [← hkn];exact Wf hs1 (by omega) (by omega)
        obtain ⟨iv,hiv⟩:∃q,ins.getD yn 0=q:=⟨_,rfl⟩;rw [hkn,hiv] at hin9;rw [hiv] at IN EV;obtain ⟨au,hau⟩:∃q,ZL k P kn 0 iv=q:=⟨_,rfl⟩;rw [hau] at hin9;have HAU:=zH hau;have HIN9:=zH hin9;have HKN:=zH hkn;clear hin hic hib hiv hau hin9
        refine Xz [onT 77 (isV (.pointer (some ⟨g,5,none⟩))),
           onT 78 (isV (.slice (some ⟨gv,0,none⟩) n d')),
           onT 79 (isV (.int .i64 j)),
           onT 80 (isV (.agg #[.int .i64 k.p,.slice KA k.al.length kc])),
           onT 81 (isV (.slice (some ⟨ib,io,none⟩) 60 ci)),
           onT 82 (isV (.pointer (some ⟨wr.heap.size,1,none⟩))),
           onT 83 (isV (.int .i64 yn)),
           onT 84 (isV (.pointer (some ⟨ib,io+yn,none⟩))),
           onT 85 (isV (.int .i64 iv)),
           onT 86 (isV (.agg #[.int .i64 s,.int .i64 a])),
           onT 87 (isV (.int .i64 j)),
           ⟨[88],fun l w'=>l.getD 0 undef=.agg #[.int .i64 kn,.int .i64 0]⟩,
           ⟨[89],fun l w'=>aTupE wr.heap.size au (l.getD 0 undef) w'⟩,
           ⟨[76],fun l w'=>aTupE wr.heap.size au (l.getD 0 undef) w'⟩,
           ⟨[90],fun l w'=>autF wr.heap.size au (l.getD 0 undef) w'⟩,
           ⟨[],fun l w'=>True⟩,
           onT 92 (isV (.pointer (some ⟨gv,j*2,none⟩))),
           ⟨[],fun l w'=>∃F'',SOF 58 (Zf ⟨k,c,(fillV k c P s ins j).set j au,[],0,false⟩) g F'' w'∧(∀x∈F'',x∈F∨wr.heap.size≤x)∧Chg (fun y=>y∈F5) wr w'⟩] [(17,gv)] (by kernel_rfl) (by kernel_rfl) (by kernel_rfl) ?_ ?_ ?_
        · exact Zc (Zh (Zb _)) (Zc (Zh (Zb _)) (Zc (Zh (Zb _)) (Zc (Zh (Zb _)) (Zc (Zh (Zb _)) (Zc (Zh (Zb _)) (Zc (Zh (Zb _)) (Zc (Zh (Zb _)) (Zc (Zh (Zb _)) (Zc (Zh (Zb _)) (Zc (Zh (Zb _)) (Zc (Zo fun l w1 w2 h hg=>h) (Zc (Zo fun l w1 w2 h hg=>Kg _ _ _ h hg) (Zc (Zo fun l w1 w2 h hg=>Kg _ _ _ h hg) (Zc (Zo fun l w1 w2 h hg=>ZR _ _ _ h hg) (Zc (Zo fun l w1 w2 h hg=>h) (Zc (Zh (Zb _)) (Zc (Zo fun l w1 w2 ⟨F'',h1,h2,h3⟩ hg=>⟨F'',h1.grow hg,h2,h3.trans (Chg.of hg (by simp))⟩) ZX)))))))))))))))))
        · simp only [hops6,and_true]
          refine ⟨?_, ?_, ?_, ?_, ?_, ?_, ?_, ?_, ?_, ?_, ?_, ?_, ?_, ?_, ?_, ?_, ?_, ?_⟩
          · intro f w4 hG hpre hold hd
            have hgd:=gb6 hG hpre (by kernel_rfl);have hg4:=gbT (gbD (gbR wy none)) hgd;have hz4:=hg4.size
            (try simp at hd)
            first | simp [hd] | simp
            try clear hd
            go_wp2_with fail;exact ⟨_,rfl,by simp [fAt,Zy,Zn,isV],Or.inl (gbR _ _)⟩
          · intro f w4 hG hpre hold hd
            have hgd:=gb6 hG hpre (by kernel_rfl);have hg4:=gbT (gbD (gbR wy none)) hgd;have hz4:=hg4.size;have k0:=gbk hg4 (V5.out)
            (try simp at hd)
            first | simp [hd] | simp
            try clear hd
            go_wp2_with fail;exact ⟨_,rfl,by simp [fAt,Zy,Zn,isV],Or.inl (gbR _ _)⟩
          · intro f w4 hG hpre hold hd
            have hgd:=gb6 hG hpre (by kernel_rfl);have hg4:=gbT (gbD (gbR wy none)) hgd;have hz4:=hg4.size
            (try simp at hd)
            first | simp [hd] | simp
            try clear hd
            go_wp2_with fail;exact ⟨_,rfl,by simp [fAt,Zy,Zn,isV],Or.inl (gbR _ _)⟩
          · intro f w4 hG hpre hold hd
            have hgd:=gb6 hG hpre (by kernel_rfl);have hg4:=gbT (gbD (gbR wy none)) hgd;have hz4:=hg4.size;have k1:=gbk hg4 (K0.out);have k2:=gbk hg4 (K1.out)
            (try simp at hd)
            first | simp [hd] | simp
            try clear hd
            go_wp2_with fail;exact ⟨_,rfl,by simp [fAt,Zy,Zn,isV],Or.inl (gbR _ _)⟩
          · intro f w4 hG hpre hold hd
            have hgd:=gb6 hG hpre (by kernel_rfl);have hg4:=gbT (gbD (gbR wy none)) hgd;have hz4:=hg4.size
            (try simp at hd)
            first | simp [hd] | simp
            try clear hd
            go_wp2_with fail;exact ⟨_,rfl,by simp [fAt,Zy,Zn,isV],Or.inl (gbR _ _)⟩
          · intro f w4 hG hpre hold hd
            have hgd:=gb6 hG hpre (by kernel_rfl);have hg4:=gbT (gbD (gbR wy none)) hgd;have hz4:=hg4.size
            (try simp at hd)
            first | simp [hd] | simp
            try clear hd
            go_wp2_with fail;exact ⟨_,rfl,by simp [fAt,Zy,Zn,isV],Or.inl (gbR _ _)⟩
          · intro f w4 hG hpre hold hd
            have hgd:=gb6 hG hpre (by kernel_rfl);have hg4:=gbT (gbD (gbR wy none)) hgd;have hz4:=hg4.size;have k3:=gbk hg4 (S1.out)
            (try simp at hd)
            first | simp [hd] | simp
            try clear hd
            go_wp2_with fail;exact ⟨_,rfl,by simp [fAt,Zy,Zn,isV],Or.inl (gbR _ _)⟩
          · intro f w4 hG hpre hold hd
            have hgd:=gb6 hG hpre (by kernel_rfl);have hg4:=gbT (gbD (gbR wy none)) hgd;have hz4:=hg4.size
            (try simp at hd)
            first | simp [hd] | simp
            try clear hd
            go_wp2_with fail;exact ⟨_,rfl,by simp [fAt,Zy,Zn,isV],Or.inl (gbR _ _)⟩
          · intro f w4 hG hpre hold hd
            have hgd:=gb6 hG hpre (by kernel_rfl);have hg4:=gbT (gbD (gbR wy none)) hgd;have hz4:=hg4.size;have k4:=gbk hg4 (IN.out)
            (try simp at hd)
            first | simp [hd] | simp
            try clear hd
            go_wp2_with fail;exact ⟨_,rfl,by simp [fAt,Zy,Zn,isV],Or.inl (gbR _ _)⟩
          · intro f w4 hG hpre hold hd
            have hgd:=gb6 hG hpre (by kernel_rfl);have hg4:=gbT (gbD (gbR wy none)) hgd;have hz4:=hg4.size;have k5:=gbk hg4 (T0.out);have k6:=gbk hg4 (T1.out)
            (try simp at hd)
            first | simp [hd] | simp
            try clear hd
            go_wp2_with fail;exact ⟨_,rfl,by simp [fAt,Zy,Zn,isV],Or.inl (gbR _ _)⟩
          · intro f w4 hG hpre hold hd
            have hgd:=gb6 hG hpre (by kernel_rfl);have hg4:=gbT (gbD (gbR wy none)) hgd;have hz4:=hg4.size
            (try simp at hd)
            first | simp [hd] | simp
            try clear hd
            go_wp2_with fail;exact ⟨_,rfl,by simp [fAt,Zy,Zn,isV],Or.inl (gbR _ _)⟩
          · intro f w4 hG hpre hold hd
            have hgd:=gb6 hG hpre (by kernel_rfl);have hg4:=gbT (gbD (gbR wy none)) hgd;have hz4:=hg4.size
            (try simp at hd)
            simp [puts,dsts,Act.put,hd];clear hd;go_wp2_with fail;refine (Xc s a j w4 hs1 (by omega) (by omega)).mono ?_;rintro e w6 ⟨rfl,g6⟩;rw [hkn];have G6:=zH g6;clear g6;go_wp2_with fail;exact ⟨_,rfl,rfl,Or.inl G6.out⟩
          · intro f w4 hG hpre hold hd
            have hgd:=gb6 hG hpre (by kernel_rfl);have hg4:=gbT (gbD (gbR wy none)) hgd;have hz4:=hg4.size
            (try simp at hd)
            have e88:f 88=.agg #[.int .i64 kn,.int .i64 0]:=by first | exact hd.2.2 | exact hd.2.2.1
            simp [puts,dsts,Act.put,hd,e88];clear hd e88;go_wp2_with fail;refine (Vv k P kn 0 iv _ w4 (AggR.grow HK.out (gbT G1Y.out hg4)) WK.out KB.out HHP.out EV.out hknl (by omega)).mono ?_;rintro e w6 ⟨v6,rfl,o6,g6⟩;rw [HAU.out] at o6;obtain ⟨Aa,na,ca,Ba,qa,da,rfl⟩:=o6.form;have O6:=zH (autF.lo o6 (show wr.heap.size≤w4.heap.size by omega));have G6:=zH g6;clear o6 g6;go_wp2_with fail;exact ⟨_,rfl,⟨_,_,_,_,_,_,_,rfl,O6.out⟩,Or.inl G6.out⟩
          · intro f w4 hG hpre hold hd
            have hgd:=gb6 hG hpre (by kernel_rfl);have hg4:=gbT (gbD (gbR wy none)) hgd;have hz4:=hg4.size
            (try simp at hd)
            obtain ⟨t9,Aa,na,ca,Ba,qa,da,e89,o6⟩:=hd;have e89:f 89=_:=e89;simp [puts,dsts,Act.put,e89];go_wp2_with fail;exact ⟨_,rfl,⟨_,_,_,_,_,_,_,rfl,o6⟩,Or.inl (gbR _ _)⟩
          · intro f w4 hG hpre hold hd
            have hgd:=gb6 hG hpre (by kernel_rfl);have hg4:=gbT (gbD (gbR wy none)) hgd;have hz4:=hg4.size
            (try simp at hd)
            obtain ⟨t9,Aa,na,ca,Ba,qa,da,e89,o6⟩:=hd;have e89:f 76=_:=e89;simp [puts,dsts,Act.put,e89];go_wp2_with fail;exact ⟨_,rfl,o6,Or.inl (gbR _ _)⟩
          · intro f w4 hG hpre hold hd
            (try simp at hd)
            obtain ⟨t9,Aa,na,ca,Ba,qa,da,e89,o6⟩:=hd;have e89:f 76=_:=e89;simp [puts,dsts,Act.put,e89];go_wp2_with fail;exact ⟨_,rfl,trivial,Or.inl (gbR _ _)⟩
          · intro f w4 hG hpre hold hd
            have hgd:=gb6 hG hpre (by kernel_rfl);have hg4:=gbT (gbD (gbR wy none)) hgd;have hz4:=hg4.size
            (try simp at hd)
            first | simp [hd] | simp
            try clear hd
            go_wp2_with fail;exact ⟨_,rfl,by simp [fAt,Zy,Zn,isV],Or.inl (gbR _ _)⟩
          · intro f w4 hG hpre hold hd
            have hgd:=gb6 hG hpre (by kernel_rfl);have hg4:=gbT (gbD (gbR wy none)) hgd;have hz4:=hg4.size
            (try simp at hd)
            have e78:=hd.1;have h77:autF wr.heap.size au (f 90) w4:=hd.2.1;obtain ⟨A9,n9,c9,B9,q9,d9,Fx,e77,hx,lx⟩:=autF.own h77;have gz:=gbT GY.out hg4;have O4:=Zi _ O5.out gz;obtain ⟨X0,x0,X1,x1,y0,y1,z0,z1,_⟩:=YK O4 (i:=j) (by omega);obtain ⟨F5',r1,r2⟩:=XZ O4 (i:=j) (by omega) hx (fun y hy hy'=>by have:=lx y hy;have:=LT5.out y hy';omega);have hch2:=(chgS w4 gv (j*2) (.slice A9 n9 c9)).trans (chgS _ gv (j*2+1) (.slice B9 q9 d9));have hch:Chg (fun y=>y∈F5) wr ((w4.setCell ⟨gv,j*2,none⟩ (.slice A9 n9 c9)).setCell ⟨gv,j*2+1,none⟩ (.slice B9 q9 d9)):=(Chg.of gz (by simp)).trans (hch2.mono (fun y hy=>by rw [hy];exact hgv));obtain ⟨F'',t1,t2⟩:=UP.out _ _ F5' hch r1 (fun y hy=>(r2 y hy).imp id (lx y));simp [puts,dsts,Act.put,e77,e78];go_wp2_with fail;exact ⟨rfl,⟨.bool false,F'',t1,t2,hch⟩,Or.inr ⟨hch2.mono (fun y hy=>.inr (by simp [hy])),⟨fun _ h=>h,fun _ h=>h,fun _ h=>h,fun _ h=>h,fun _ h=>h,fun _ h=>h,fun _ h=>h,fun _ h=>h,fun _ h=>h,fun _ h=>h,fun _ h=>h,fun _ h=>h,fun _ h=>UQ h hch2 hgvl,fun _ h=>UQ h hch2 hgvl,fun _ h=>autF.chg h hch2 hgvl,fun _ h=>h,fun _ h=>h,fun h _=>absurd rfl h,trivial⟩⟩⟩
        intro f w8 hG hd;have hI:=Yh hd (i:=17) rfl;simp only [puts,dsts,Act.put,zB,zC,zA,zD,zE];obtain ⟨F'',h1,h2,h3⟩:=hI;rw [← HIN9.out,fillV_set _ _ _ _ _ (by rw [LN.out];exact hlt)] at h1;have J1:=zH h1;have J2:=zH h2;have J3:=zH h3;clear hd h1 h2 h3 S1 K0 K1 T0 T1 V5 IN;go_wp2_with fail
        go_roundw
        case rel=>exact ⟨j+1,F'',by omega,by go_num,J1,zH (fun x hx=>(J2.out x hx).elim (HL.out x) (fun h6=>by have:=HG.out.size;omega)),zH (gbChg HG.out J3.out (fun i hi=>by rw [hlo];exact HL.out i (M5.out i hi)))⟩
        case measure=>simp [intOf];omega
      have e1:(x == 1)=false:=by simpa using h1
      by_cases h2:x=2
      · subst h2
        go_wp2_with fail;obtain ⟨wy,hwy⟩:∃q:World,wr.alloc (.cells #[.int .i64 2,.int .i64 y,.int .i64 z] 102)=q:=⟨_,rfl⟩;have GY:Hid (wr.grownBy wy none):=by rw [← hwy];exact gbA (gbR _ _) _
        have BS:Hid (Blk wy wr.heap.size 102 #[.int .i64 2,.int .i64 y,.int .i64 z]):=by rw [← hwy];exact Blk.new _ _ _
        rw [hwy];clear hwy q0 q1 q2;have G1Y:=zH (gbT HG.out GY.out);have s1:=BS.out.cell 1;have k0:=(D0.out.grow G1Y.out).cell 0;have k1:=(D0.out.grow G1Y.out).cell 1;have t0:=(D2.out.grow G1Y.out).cell 0;have t1:=(D2.out.grow G1Y.out).cell 1;simp at s1 k0 k1 t0 t1;have S1:=zH s1;have K0:=zH k0;have K1:=zH k1;have T0:=zH t0;have T1:=zH t1;have V5:=zH (gbk GY.out v5);have hyz:=GY.out.size;clear s1 k0 k1 t0 t1 v5;have hin:=HSB.out;unfold stepB at hin;simp at hin;have hy9:=hin.1;clear hin;rw [← HPP.out] at hy9;have EY:=zH hy9
        have hin9:initV k c P s ins j=ZH k (zerosA k.al.length) y:=by
          unfold initV;rw [HST.out];simp
        obtain ⟨au,hau⟩:∃q,ZH k (zerosA k.al.length) y=q:=⟨_,rfl⟩;rw [hau] at hin9;have HAU:=zH hau;have HIN9:=zH hin9;clear hy9 hau hin9
        refine Zg [.rd (.pointer (some ⟨g,5,none⟩)),.rd (.slice (some ⟨gv,0,none⟩) n d'),.rd (.int .i64 j),.rd (.agg #[.int .i64 k.p,.slice KA k.al.length kc]),.rd (.int .i64 k.al.length),.fl (row1 wy.heap.size k.al.length (List.replicate k.al.length 0)),.rd (.int .i64 k.al.length),.fl (row1 wy.heap.size k.al.length (List.replicate k.al.length 0)),.fl (zroF k.al.length),.rd (.pointer (some ⟨wr.heap.size,1,none⟩)),.rd (.int .i64 y),.fl (autF wr.heap.size au),.rd (.pointer (some ⟨gv,j*2,none⟩)),.ch] (fun _=>False)
          [⟨[],fun _ w'=>wy.drew.grownBy w' none⟩,
           ⟨[],fun _ w'=>∃F'',SOF 58 (Zf ⟨k,c,(fillV k c P s ins j).set j au,[],0,false⟩) g F'' w'∧(∀x∈F'',x∈F∨wr.heap.size≤x)∧Chg (fun y=>y∈F5) wr w'⟩]
          (by kernel_rfl) (by kernel_rfl) (by kernel_rfl) 1 (by kernel_rfl) ?_ (gbR _ _) rfl ?_ ?_
        · have hst:Zw [⟨[],fun _ w'=>wy.drew.grownBy w' none⟩,⟨[],fun _ w'=>∃F'',SOF 58 (Zf ⟨k,c,(fillV k c P s ins j).set j au,[],0,false⟩) g F'' w'∧(∀x∈F'',x∈F∨wr.heap.size≤x)∧Chg (fun y=>y∈F5) wr w'⟩]:=by
            refine Zc (fun l w1 w2 h hg=>gbT h hg) ?_;exact Zc (Zo fun l w1 w2 ⟨F'',h1,h2,h3⟩ hg=>⟨F'',h1.grow hg,h2,h3.trans (Chg.of hg (by simp))⟩) ZX
          simp only [flOk,true_and,and_true];exact ⟨⟨KO,hst⟩,⟨KO,hst⟩,⟨zroF_st,hst⟩,⟨ZR,hst⟩⟩
        · simp only [hopsK,hopK,Kd.next,and_true]
          refine ⟨?_, ?_, ?_, ?_, ?_, ?_, ?_, ?_, ?_, ?_, ?_, ?_, ?_, ?_⟩;rotate_left 5
          · intro f w4 hG hd
            have hg4:=gbT (gbD (gbR wy none)) (chgF hG);have hz4:=hg4.size
            (try simp at hd)
            (first | simp [hd] | simp)
            clear hd
            go_wp2_with (at_make;refine XK _ ZZ rfl _ _ rfl k.al.length rfl rfl (by omega) (by unfold maxLen;omega) ?_;intro w6 o6 g6)
            rw [show (Value.int .i64 0).cells=#[.int .i64 0] from rfl,Vc] at o6;exact ⟨_,rfl,row1.of (L:=List.replicate k.al.length 0) (by rw [List.map_replicate];exact ZE o6 hz4),g6⟩
          rotate_left 1
          · intro f w4 hG hd
            have hg4:=gbT (gbD (gbR wy none)) (chgF hG);have hz4:=hg4.size
            (try simp at hd)
            (first | simp [hd] | simp)
            clear hd
            go_wp2_with (at_make;refine XK _ ZZ rfl _ _ rfl k.al.length rfl rfl (by omega) (by unfold maxLen;omega) ?_;intro w6 o6 g6)
            rw [show (Value.int .i64 0).cells=#[.int .i64 0] from rfl,Vc] at o6;exact ⟨_,rfl,row1.of (L:=List.replicate k.al.length 0) (by rw [List.map_replicate];exact ZE o6 hz4),g6⟩
          · intro f w4 hG hd
            have hg4:=gbT (gbD (gbR wy none)) (chgF hG);have hz4:=hg4.size
            (try simp at hd)
            obtain ⟨h1,h2⟩:=hd;obtain ⟨Aa,ca,ea,oa⟩:=h1;obtain ⟨Ab,cb,eb,ob⟩:=h2;rw [ea] at oa;rw [eb] at ob;simp [puts,dsts,Act.put,ea,eb];go_wp2_with fail;exact ⟨_,rfl,zroF.of oa ob,gbR _ _⟩
          rotate_left 2
          · intro f w4 hG hd
            have hg4:=gbT (gbD (gbR wy none)) (chgF hG);have hz4:=hg4.size
            (try simp at hd)
            obtain ⟨e98,h103,e105⟩:=hd;obtain ⟨Aa,ca,Ab,cb,e103,hz⟩:=h103;have HZ:=zH hz;simp [puts,dsts,Act.put,e98,e103,e105];clear e98 e103 e105 hz;go_wp2_with fail;refine (Vu k (zerosA k.al.length) y _ _ w4 (AggR.grow HK.out (gbT G1Y.out hg4)) HZ.out WK.out ⟨by simp [zerosA];omega,by simp [zerosA];omega⟩).mono ?_;rintro e w6 ⟨v6,rfl,o6,g6⟩;rw [HAU.out] at o6;have O6:=zH (autF.lo o6 (show wr.heap.size≤w4.heap.size by omega));have G6:=zH g6;clear o6 g6;go_wp2_with fail;exact ⟨_,rfl,O6.out,G6.out⟩
          rotate_left 1
          · intro f w4 hG hI hd
            have hg4:=gbT (gbD (gbR wy none)) (chgF hG);have hz4:=hg4.size;have hI:wy.drew.grownBy w4 none:=hI
            (try simp at hd)
            have e78:=hd.1;have h77:autF wr.heap.size au (f 106) w4:=hd.2.1;obtain ⟨A9,n9,c9,B9,q9,d9,Fx,e77,hx,lx⟩:=autF.own h77;have gz:=gbT GY.out hg4;have O4:=Zi _ O5.out gz;obtain ⟨X0,x0,X1,x1,y0,y1,z0,z1,_⟩:=YK O4 (i:=j) (by omega);obtain ⟨F5',r1,r2⟩:=XZ O4 (i:=j) (by omega) hx (fun y hy hy'=>by have:=lx y hy;have:=LT5.out y hy';omega);have hch2:=(chgS w4 gv (j*2) (.slice A9 n9 c9)).trans (chgS _ gv (j*2+1) (.slice B9 q9 d9));have hch:Chg (fun y=>y∈F5) wr ((w4.setCell ⟨gv,j*2,none⟩ (.slice A9 n9 c9)).setCell ⟨gv,j*2+1,none⟩ (.slice B9 q9 d9)):=(Chg.of gz (by simp)).trans (hch2.mono (fun y hy=>by rw [hy];exact hgv));obtain ⟨F'',t1,t2⟩:=UP.out _ _ F5' hch r1 (fun y hy=>(r2 y hy).imp id (lx y));simp [puts,dsts,Act.put,e77,e78];go_wp2_with fail;exact ⟨rfl,.bool false,F'',t1,t2,hch⟩
          all_goals
            intro f w4 hG hd;have hg4:=gbT (gbD (gbR wy none)) (chgF hG);have k0:=gbk hg4 (V5.out);have k1:=gbk hg4 (K0.out);have k2:=gbk hg4 (K1.out);have k3:=gbk hg4 (S1.out)
            (try simp at hd)
            (first | simp [hd] | simp)
            clear hd;go_wp2_with fail;exact ⟨rfl,rfl⟩
        intro f w8 hI hd;simp only [puts,dsts,Act.put,zB,zC,zA,zD,zE];obtain ⟨F'',h1,h2,h3⟩:=hI;rw [← HIN9.out,fillV_set _ _ _ _ _ (by rw [LN.out];exact hlt)] at h1;have J1:=zH h1;have J2:=zH h2;have J3:=zH h3;clear hd h1 h2 h3 S1 K0 K1 T0 T1 V5;go_wp2_with fail
        go_roundw
        case rel=>exact ⟨j+1,F'',by omega,by go_num,J1,zH (fun x hx=>(J2.out x hx).elim (HL.out x) (fun h6=>by have:=HG.out.size;omega)),zH (gbChg HG.out J3.out (fun i hi=>by rw [hlo];exact HL.out i (M5.out i hi)))⟩
        case measure=>simp [intOf];omega
      have e2:(x == 2)=false:=by simpa using h2
      have HS9:Hid (fillV k c P s ins (j+1)=fillV k c P s ins j):=by
        refine zH (fillV_same k c P s ins ?_);unfold initV;rw [HST.out];simp [h1,h2]
      clear h1 h2;go_wp2_with fail
      go_roundw
      case rel=>exact ⟨j+1,F,by omega,by go_num,by rw [HS9.out];exact zH (SG.out.grow (gbA (gbR _ _) _)),HL,zH (gbA HG.out _)⟩
      case measure=>simp [intOf];omega
    · have hjn:j=n:=by omega
      subst hjn
      have hfa:fillV k c P s ins j=initL k c P s ins:=by
        have:=fillV_all k c P s ins;rw [LN.out] at this;exact this
      rw [hfa] at SG;have HFL:Hid ((initL k c P s ins).length=c.st.length):=zH (Xp ..);have D8r:=zH (D8.out.grow HG.out);clear hfa;go_wp2_with fail;refine (QC ⟨k,c,initL k c P s ins,[],0,false⟩ g F wr SG.out OK.out HFL.out WK.out (Ja KB.out)).mono ?_;rintro e wz ⟨rfl,F',hS,hl',hch⟩;have hS:SOF 58 (Zf (engNew k c P s ins)) g F' wz:=hS;have D8z:=D8r.out.chg hch (fun hx=>by have:=HL.out _ hx;omega);have GZ:=gbT GB.out (gbChg HG.out hch (fun i hi=>by have:=HL.out i hi;omega))
      have hlF':∀x∈F',lo≤x:=fun x hx=>by
        rcases hl' x hx with h6 | h6
        · exact HL.out x h6
        · have:=HG.out.size;omega
      obtain ⟨A',B',C',D',E',a',b',c',d',e',hB,hR⟩:=hS.eng;have HA:=hS.is (us:=[_,_,_,_,_,_,_,_,_]) hB;obtain ⟨b0,b1,b2,b3,b4,b5,b6,b7,b8⟩:=hB.c9;obtain ⟨c0,c1,c2,c3,c4,c5,c6,c7,c8⟩:=D8z.c9;obtain ⟨f0,f1,f2,f3,f4,f5,f6,f7,f8⟩:=D8z.f9;obtain ⟨m,hm⟩:∃m,engNew k c P s ins=m:=⟨_,rfl⟩;rw [hm] at b0 b1 b2 b3 b4 b5 b6 b7 b8 HA;have HM:=zH hm;have RS:=SOF.store D8z (us:=[.int .i64 m.k.p,.slice A' m.k.al.length a',.int .i64 m.c.p,.slice B' m.c.st.length b',.slice C' m.c.outs.length c',.slice D' m.vs.length d',.slice E' m.op.length e',.int .i64 m.rd,.bool m.bad]) rfl HA (fun hx=>by have:=hlF' _ hx;omega);have GS:=Zu GZ (Za gR [.int .i64 m.k.p,.slice A' m.k.al.length a',.int .i64 m.c.p,.slice B' m.c.st.length b',.slice C' m.c.outs.length c',.slice D' m.vs.length d',.slice E' m.op.length e',.int .i64 m.rd,.bool m.bad] 0 wz) (by omega);simp only [Zm,Nat.zero_add,Nat.reduceAdd] at RS GS;obtain ⟨vs,hBR,hAR⟩:=RS.agg;have HAR:=zH hAR;have HBR:=zH hBR;have GS:=zH GS;have HLF:=zH hlF';have hlz1:=z1.out;clear hS hB hR HA RS hAR hBR hl' hch D8z GZ hlF' SG HL HG hm;go_wp2_with fail;refine Xq Tryz.results50 (by rfl) Yu (cs:=vs.toArray) HBR.out (by rw [List.size_toArray];exact Vi HAR.out) (by rfl) ?_;exact ⟨_,rfl,⟨F',by rw [HM.out];exact HAR.out,fun x hx=>by have:=HLF.out x hx;omega⟩,GS.out⟩
end Go.Proofs.YthaadgdeadbhkaaGreat
