/-
  EngineNew of the reference,where it gives an Engine (printed by wip/gen_sengnewy.py).
-/
import Derived.Test.YthaadgdeadbhkaaGreatMgFnExactCountOutcomes33
import Derived.Test.YthaadgdeadbhkaaGreatMgFnExactCountOutcomes34
open Go.RowKit
set_option linter.unusedVariables false
set_option linter.unusedSimpArgs false
namespace Go.Proofs.YthaadgdeadbhkaaGreat
attribute [local simp] depsC dstAt kAt bindE List.filter_cons Zz Zq Zr Zs ZA ZW depsF fAt Zy isV puts dsts Act.put
theorem engZ.of0 {lo:Nat} {k:KM} {c:AM} {u v:Value} {w:World} (h:keyArL lo k c u v w):∃A n1 c1 B q d C r e,u=.agg #[.int .i64 k.p,.slice A n1 c1]∧v=.agg #[.int .i64 c.p,.slice B q d,.slice C r e]∧engZ lo (engN k c 0) (.agg #[.int .i64 k.p,.slice A n1 c1,.int .i64 c.p,.slice B q d,.slice C r e,.slice none 0 0,.slice none 0 0,.int .i64 0,.bool false]) w:=by
  obtain ⟨A,n1,c1,B,q,d,C,r,e,rfl,rfl,Fs,h1,h2⟩:=h;have hz:OwnAll w [ci 0,cb false] [.int .i64 0,.bool false] [[],[]]:=OwnAll.cons (Qu w 0) (OwnAll.cons (cb_own w false) (OwnAll.nil _) (by simp)) (by simp);have h5:OwnAll w [cauths [],cints [],ci 0,cb false] [.slice none 0 0,.slice none 0 0,.int .i64 0,.bool false] [[],[],[],[]]:=OwnAll.cons (Qk w) (OwnAll.cons (YS w) hz (by simp)) (by simp);have h6:=h1.append h5 (fun y hy hy'=>by simp at hy');refine ⟨A,n1,c1,B,q,d,C,r,e,rfl,rfl,A,n1,c1,B,q,d,C,r,e,_,_,_,rfl,_,⟨_,_,rfl,h6,rfl⟩,fun y hy => ?_⟩;rw [List.flatten_append] at hy
  rcases List.mem_append.1 hy with hy | hy
  · exact h2 y hy
  · simp at hy
def autX (lo g:Nat) (m:AuM) (w:World):Prop:=∃A n c B k d,autF lo m (.agg #[.slice A n c,.slice B k d]) w∧Blk w g 80 #[.slice A n c,.slice B k d]
theorem autX.grow {lo g:Nat} {m:AuM} {w w':World} (h:autX lo g m w) (hg:w.grownBy w' none):autX lo g m w':=by
  obtain ⟨A,n,c,B,k,d,h1,h2⟩:=h;exact ⟨A,n,c,B,k,d,h1.grow hg,h2.grow hg⟩
theorem autF_no (lo:Nat) (w:World):autF lo noA (.agg #[.slice none 0 0,.slice none 0 0]) w:=⟨_,⟨_,_,rfl,OwnAll.cons (YS w) (OwnAll.cons (YS w) (OwnAll.nil _) (by simp)) (by simp),rfl⟩,by simp⟩
theorem initL_okV {k:KM} {c:AM} {P s:Nat} {ins:List Int} (hk:keysB k=true) (hP:k.p=P) (he:elemsB k.p ins=true):∀a∈initL k c P s ins,okV k a=true:=by
  intro a ha;unfold initL at ha;obtain ⟨i,_,rfl⟩:=List.mem_map.1 ha;unfold initV
  split
  · have hr:=KH he (stAt c i).2.1.toNat
    unfold okV;rw [(Good.new (P:=P) (s:=keyN s 9 i) (a:=0) hk hP (Yi (ZI he).1 hr.1 hr.2)).form,Bool.or_true]
  · split
    · cases hx:elemB k.p (stAt c i).2.1
      · have:ZH k (zerosA k.al.length) (stAt c i).2.1=noA:=by unfold ZH;rw [hx,Bool.and_false];rfl
        rw [this];exact UN zero_no
      · unfold okV
        rw [(Qj (Good.zeros hk).form hx).2,Bool.or_true]
    · exact UN zero_no
set_option maxHeartbeats 4000000 in
set_option maxRecDepth 100000 in
theorem Vb (k:KM) (c:AM) (P s a:Nat) (I:Option Addr) (ci:Nat) (ins:List Int) (kv cv:Value) (w0:World) (h:AggR w0 (ckeys k) kv) (hc:AggR w0 (carith c) cv) (hi:Ints w0 I 60 ins) (wk:kwf k) (wc:amwf c) (hP:k.p=P) (hb:newB k c ins s a=true) :
    Calls Tryz.prog 39 #[kv,cv,.slice I 60 ci,.agg #[.int .i64 s,.int .i64 a]] w0 fun e w'=>∃v,e=.returned (.tuple #[v,.bool true])∧aggF w0.heap.size (Zf (engNew k c P s ins)) v w'∧w0.grownBy w' none:=by
  obtain ⟨hk,hok,hpp,hl,hel,htp,ha9⟩:=Qn hb;obtain ⟨_,_,hs0,ha0,hs1,ha1⟩:=Vr htp;obtain rfl:s=_:=Int.ofNat.inj hs0;obtain rfl:a=_:=Int.ofNat.inj ha0;obtain ⟨KA,kc,rfl,_,_,_⟩:=ZG h;obtain ⟨u1,u2,rfl,c1,c2⟩:=Zt hc;obtain ⟨A1,n1,rfl,_,_,hF⟩:=ZP (s:=3) (fun _=>rfl) (by omega) c1;obtain ⟨A2,n2,rfl,_,_,_⟩:=Zx c2;obtain ⟨w1,hw1⟩:∃y:World,(((w0.alloc (.cells #[.int .i64 k.p,.slice KA k.al.length kc] 34)).alloc (.cells #[.int .i64 c.p,.slice A1 c.st.length n1,.slice A2 c.outs.length n2] 38)).alloc (.cells #[.int .i64 s,.int .i64 a] 41)).alloc (.cells #[.int .i64 0,.slice none 0 0,.int .i64 0,.slice none 0 0,.slice none 0 0,.slice none 0 0,.slice none 0 0,.int .i64 0,.bool false] 58)=y:=⟨_,rfl⟩;have GB:Hid (w0.grownBy w1 none):=by rw [← hw1];exact gbA (gbA (gbA (gbA (gbR _ _) _) _) _) _
  have z1:Hid (w1.heap.size=w0.heap.size+4):=by rw [← hw1];exact zH (by simp)
  have D0:Hid (Blk w1 w0.heap.size 34 #[.int .i64 k.p,.slice KA k.al.length kc]):=by rw [← hw1];exact (((Blk.new w0 _ _).grow (gbA (gbR _ _) _)).grow (gbA (gbR _ _) _)).grow (gbA (gbR _ _) _)
  have D1:Hid (Blk w1 (w0.heap.size+1) 38 #[.int .i64 c.p,.slice A1 c.st.length n1,.slice A2 c.outs.length n2]):=by rw [← hw1];exact ((Blk.new' _ _ _ _ (by simp)).grow (gbA (gbR _ _) _)).grow (gbA (gbR _ _) _)
  have D2:Hid (Blk w1 (w0.heap.size+1+1) 41 #[.int .i64 s,.int .i64 a]):=by rw [← hw1];exact (Blk.new' _ _ _ _ (by simp)).grow (gbA (gbR _ _) _)
  have D8:Hid (Blk w1 (w0.heap.size+1+1+1) 58 #[.int .i64 0,.slice none 0 0,.int .i64 0,.slice none 0 0,.slice none 0 0,.slice none 0 0,.slice none 0 0,.int .i64 0,.bool false]):=by rw [← hw1];exact Blk.new' _ _ _ _ (by simp)
  have HK:=zH (AggR.grow h GB.out);have HC:=zH (AggR.grow hc GB.out);have HI:=zH (hi.grow GB.out);have HF:=zH (FL.grow hF GB.out);have WK:=zH wk;have WC:=zH wc;have KB:=zH hk;have OK:=zH hok;have AB:=zH (Yq hok);have TB:=zH htp;have hel:=(show elemsB k.p ins=true by rw [hpp];exact hel);have EB:=zH hel;have HPP:=zH hpp;have LI:=zH hl;have HHP:=zH hP;obtain ⟨n,hn⟩:∃n,c.st.length=n:=⟨_,rfl⟩;have hn60:n≤60:=by have:=hok.few;omega
  have LN:=zH hn;obtain ⟨_,_,l1,l5⟩:=Yc hk;have d3:(k.p != c.p)=false:=by rw [hpp];simp
  have TB9:Hid ((tapeB (s:Int) (a:Int)&&!decide ((900000:Int)<(a:Int)))=true):=by unfold Hid;rw [htp,Bool.true_and];simp;omega
  have hcp:=WK.out.1;obtain ⟨hcp1,hcp2⟩:=hcp;rw [hn] at D1 hw1;clear h hc hi wk wc c1 c2 hb hk hok htp hel hpp hl hF hP hn
  go_enter Tryz.func39,Tryz.ntmps39
  rw [LN.out];have k0:=D0.out.cell 0;have k1:=D0.out.cell 1;have x0:=D1.out.cell 0;have x1:=D1.out.cell 1;have x2:=D1.out.cell 2;have y0:=D2.out.cell 0;have y1:=D2.out.cell 1;simp at k0 k1 x0 x1 x2 y0 y1;go_wp2_with fail;obtain ⟨gR,hgR'⟩:∃g,w0.heap.size+1+1+1=g:=⟨_,rfl⟩;have hgR:w0.heap.size≤gR:=by omega
  have hgR1:gR<w1.heap.size:=by have:=z1.out;omega
  rw [hgR'] at D8 ⊢;clear hgR' hw1 k0 k1 x0 x1 x2 y0 y1;refine (YP k _ _ HK.out WK.out).mono ?_;rintro e w2 ⟨rfl,g2⟩;rw [KB.out];have x0:=(D1.out.grow g2).cell 0;have x1:=(D1.out.grow g2).cell 1;have x2:=(D1.out.grow g2).cell 2;simp at x0 x1 x2;have G2:=zH g2;clear g2;go_wp2_with fail;clear x0 x1 x2;have HC2:=zH (AggR.grow HC.out G2.out);rw [LN.out] at HC2;refine (Yd c _ _ HC2.out WC.out.wf).mono ?_;rintro e w3 ⟨rfl,g3⟩;rw [AB.out];have g3:=gbT G2.out g3;clear G2 HC2;have G3:=zH g3;have k0:=(D0.out.grow g3).cell 0;have x0:=(D1.out.grow g3).cell 0;simp at k0 x0;clear g3;go_wp2_with fail;clear k0 x0;refine (ZQ k.p I 60 ci ins w3 (by omega) (HI.out.grow G3.out) (by omega)).mono ?_;rintro e w4 ⟨rfl,rfl⟩;rw [EB.out];have y0:=(D2.out.grow G3.out).cell 0;have y1:=(D2.out.grow G3.out).cell 1;simp at y0 y1;go_wp2_with fail;clear y0 y1;refine (XQ s a _).mono ?_;rintro e wq ⟨rfl,g4⟩;rw [TB9.out];have g4:=gbT G3.out g4;have G4:=zH g4;clear g4 G3;go_wp2_with fail;have B0:=zH (D0.out.grow G4.out);have B1:=zH (D1.out.grow G4.out);have k0:=B0.out.cell 0;have k1:=B0.out.cell 1;have x0:=B1.out.cell 0;have x1:=B1.out.cell 1;have x2:=B1.out.cell 2;simp at k0 k1 x0 x1 x2;have K0:=zH k0;have K1:=zH k1;have X0:=zH x0;have X1:=zH x1;have X2:=zH x2;clear k0 k1 x0 x1 x2;have hlz:=G4.out.size
  refine Zg [.rd (.agg #[.int .i64 k.p,.slice KA k.al.length kc]),.ch,.rd (.agg #[.int .i64 c.p,.slice A1 n n1,.slice A2 c.outs.length n2]),.ch,.ch,.fl (isBox wq.heap.size 58 #[.int .i64 0,.slice none 0 0,.int .i64 0,.slice none 0 0,.slice none 0 0,.slice none 0 0,.slice none 0 0,.int .i64 0,.bool false]),.ch] (fun _=>False)
    [⟨[],fun _ w'=>wq.drew.grownBy w' none⟩,
     ⟨[48],fun l w'=>keyL wq.heap.size k (l.getD 0 undef) w'⟩,
     ⟨[48,50],fun l w'=>keyArL wq.heap.size k c (l.getD 0 undef) (l.getD 1 undef) w'⟩,
     ⟨[51],fun l w'=>engZ wq.heap.size (engN k c 0) (l.getD 0 undef) w'⟩,
     ⟨[10],fun l w'=>∃g,l.getD 0 undef=.pointer (some ⟨g,0,none⟩)∧wq.heap.size≤g∧sofF wq.heap.size 58 (Zf (engN k c 0)) g w'∧wq.grownBy w' none⟩]
    (by kernel_rfl) (by kernel_rfl) (by kernel_rfl) 4 (by kernel_rfl) ?_ (gbR _ _) rfl ?_ ?_
  · have hst:Zw [⟨[],fun _ w'=>wq.drew.grownBy w' none⟩,⟨[48],fun l w'=>keyL wq.heap.size k (l.getD 0 undef) w'⟩,⟨[48,50],fun l w'=>keyArL wq.heap.size k c (l.getD 0 undef) (l.getD 1 undef) w'⟩,⟨[51],fun l w'=>engZ wq.heap.size (engN k c 0) (l.getD 0 undef) w'⟩,⟨[10],fun l w'=>∃g,l.getD 0 undef=.pointer (some ⟨g,0,none⟩)∧wq.heap.size≤g∧sofF wq.heap.size 58 (Zf (engN k c 0)) g w'∧wq.grownBy w' none⟩]:=by
      refine Zc (fun l w1 w2 h hg=>gbT h hg) ?_;refine Zc (Zo fun l w1 w2 h hg=>h.grow hg) ?_;refine Zc (Zo fun l w1 w2 h hg=>h.grow hg) ?_;refine Zc (Zo fun l w1 w2 h hg=>h.grow hg) ?_;refine Zc (Zo fun l w1 w2 ⟨g,h1,h2,h3,h4⟩ hg=>⟨g,h1,h2,h3.grow hg,gbT h4 hg⟩) ZX
    simp only [flOk,true_and,and_true];exact ⟨Xh _ _ _,hst⟩
  · simp only [hopsK,hopK,Kd.next,and_true]
    refine ⟨?_, ?_, ?_, ?_, ?_, ?_, ?_⟩;rotate_left 1
    · intro f w4 hG hI hd
      have hg4:=gbT (gbD (gbR wq none)) (chgF hG);have hz4:=hg4.size
      (try simp at hd)
      (first | simp [hd] | simp)
      clear hd;go_wp2_with fail;refine (specl28Keys_c k _ _ (AggR.grow HK.out (gbT G4.out hg4)) WK.out).mono ?_;rintro e w6 ⟨v6,rfl,o6,g6⟩;have O6:=zH (keyL.of (o6.lo hz4));have G6:=zH g6;clear o6 g6;go_wp2_with fail;exact ⟨_,rfl,O6.out,⟨Chg.of G6.out (by simp),by simp [keepsC,dstAt];exact fun h=>Xh _ _ _ _ _ _ h G6.out⟩⟩
    rotate_left 1
    · intro f w4 hG hI hd
      have hg4:=gbT (gbD (gbR wq none)) (chgF hG);have hz4:=hg4.size;have H8:Hid (keyL wq.heap.size k (f 48) w4):=hI;clear hI;have HC4:=zH (AggR.grow HC.out (gbT G4.out hg4));rw [LN.out] at HC4
      (try simp at hd)
      (first | simp [hd] | simp)
      clear hd;go_wp2_with fail;refine (specl28Arith_c c _ _ HC4.out WC.out).mono ?_;rintro e w6 ⟨v6,rfl,o6,g6⟩;have O6:=zH (keyArL.of H8.out g6 o6 hz4);have G6:=zH g6;clear o6 g6;go_wp2_with fail;exact ⟨_,rfl,O6.out,⟨Chg.of G6.out (by simp),by simp [keepsC,dstAt];exact fun h=>Xh _ _ _ _ _ _ h G6.out⟩⟩
    · intro f w4 hG hI hd
      have hg4:=gbT (gbD (gbR wq none)) (chgF hG);have hz4:=hg4.size;have H8:keyArL wq.heap.size k c (f 48) (f 50) w4:=hI;obtain ⟨A9,n9,c9,B9,q9,d9,C9,r9,e9,e48,e50,o7⟩:=engZ.of0 H8;have HA:=zH o7;clear o7 H8 hI hd;simp [puts,dsts,Act.put,e48,e50];go_wp2_with fail;exact ⟨_,rfl,HA.out,⟨Chg.refl _ _,by simp [keepsC,dstAt]⟩⟩
    · intro f w4 hG hd
      have hg4:=gbT (gbD (gbR wq none)) (chgF hG);have hz4:=hg4.size;clear hd;simp [puts,dsts,Act.put];go_wp2_with fail;exact ⟨_,rfl,⟨_,rfl,hz4,Blk.new _ _ _⟩,gbA (gbR _ _) _⟩
    · intro f w4 hG hI hd
      have hg4:=gbT (gbD (gbR wq none)) (chgF hG);have hz4:=hg4.size;have o8:engZ wq.heap.size (engN k c 0) (f 51) w4:=hI;obtain ⟨A,n9,c9,B,q,d,C,r,e,D,o,i,e8,F,o9,l9⟩:=o8
      (try simp at hd)
      obtain ⟨⟨g,e3,hg,R4⟩,hd⟩:=hd;obtain ⟨f0,f1,f2,f3,f4,f5,f6,f7,f8⟩:=R4.f9;obtain ⟨b0,b1,b2,b3,b4,b5,b6,b7,b8⟩:=R4.c9;have hgF:=WR (Yr _) o9 R4 (by decide);have RS:=SOF.store R4 (us:=[.int .i64 (engN k c 0).k.p,.slice A n9 c9,.int .i64 (engN k c 0).c.p,.slice B q d,.slice C r e,.slice D o i,.slice none 0 0,.int .i64 (engN k c 0).rd,.bool (engN k c 0).bad]) rfl o9 hgF;have GS:=Zu hg4 (Za g [.int .i64 (engN k c 0).k.p,.slice A n9 c9,.int .i64 (engN k c 0).c.p,.slice B q d,.slice C r e,.slice D o i,.slice none 0 0,.int .i64 (engN k c 0).rd,.bool (engN k c 0).bad] 0 _) hg;simp only [Zm,Nat.zero_add,Nat.reduceAdd] at RS GS;have RS:=zH RS;have GS:=zH GS;simp [puts,dsts,Act.put,e8,e3];clear hd R4;go_wp2_with fail;exact ⟨rfl,.bool false,g,e3,hg,⟨F,RS.out,l9⟩,GS.out⟩
    all_goals
      intro f w4 hG hd;have hg4:=gbT (gbD (gbR wq none)) (chgF hG);have k0:=gbk hg4 (K0.out);have k1:=gbk hg4 (K1.out);have k2:=gbk hg4 (X0.out);have k3:=gbk hg4 (X1.out);have k4:=gbk hg4 (X2.out)
      (try simp at hd)
      (first | simp [hd] | simp)
      clear hd;go_wp2_with fail;exact ⟨rfl,rfl⟩
  intro f w9 hI hd;simp only [puts,dsts,Act.put,zB,zC,zA,zD,zE];obtain ⟨g,e3,hg,hS,hG⟩:=hI;have e3:f 10=.pointer (some ⟨g,0,none⟩):=e3;rw [e3];have HS:=zH hS;have GG:=zH (gbT G4.out hG);have hlz9:=GG.out.size;obtain ⟨lo,hlo⟩:∃x,w1.heap.size=x:=⟨_,rfl⟩;have hlow:lo≤wq.heap.size:=by omega
  clear hd e3 hS hG B0 B1 K0 K1 X0 X1 X2;go_wp2_with fail
  go_loopw [11] (fun i wr=>∃(j:Nat) (F:List Nat),j≤n∧i=.int .i64 j∧Hid (SOF 58 (Zf ⟨k,c,(initL k c P s ins).take j,[],0,false⟩) g F wr)∧Hid (∀x∈F,lo≤x)∧Hid (w1.grownBy wr none)) (fun i wr=>n - (intOf i).toNat)
  case atStart =>
    obtain ⟨F,h1,h2⟩:=HS.out;exact ⟨0,F,Nat.zero_le _,rfl,zH h1,zH (fun x hx=>by have:=h2 x hx;omega),GG⟩
  case round =>
    clear HS GG;obtain ⟨j,F,hj,rfl,SG,HL,HG⟩:=hrel;have x1:=(D1.out.grow HG.out).cell 1;simp only [List.getElem?_toArray,List.getElem?_cons_succ,List.getElem?_cons_zero] at x1
    by_cases hlt:j<n
    · have i1:(j:Int)<(n:Int):=by omega
      obtain ⟨V,d5,F5,v5,f5,o5,m5,g5,lt5,up5,_⟩:=SG.out.val;have hk':((initL k c P s ins).take j).length=j:=by rw [List.length_take,Xp,LN.out];omega
      rw [show (EM.vs ⟨k,c,(initL k c P s ins).take j,[],0,false⟩)=(initL k c P s ins).take j from rfl,hk'] at v5 o5;obtain ⟨b,o,x,y,z,rfl,hb,hx,q0,q1,q2⟩:=YI (FL.grow HF.out HG.out) (k:=j) (by rw [LN.out];exact hlt);have hst:stAt c j=(x,y,z):=by simp [stAt,zF,hx]
      have hsb:=OK.out.steps j (by rw [LN.out];exact hlt);rw [hst] at hsb;have HSB:=zH hsb;have HST:=zH hst;have UP:=zH up5;have O5:=zH o5;have M5:=zH m5;have LT5:=zH lt5;have V5:=zH v5;have FZ:=zH f5;have G5:=zH g5;have hgl:=SG.out.ltg;clear hx hst hsb up5 o5 m5 lt5 f5 g5
      by_cases h1:x=1
      · subst h1
        go_wp2_with fail;obtain ⟨wy,hwy⟩:∃q:World,(wr.alloc (.cells #[.int .i64 1,.int .i64 y,.int .i64 z] 102)).alloc (.cells #[.slice none 0 0,.slice none 0 0] 80)=q:=⟨_,rfl⟩;have GY:Hid (wr.grownBy wy none):=by rw [← hwy];exact gbA (gbA (gbR _ _) _) _
        have BS:Hid (Blk wy wr.heap.size 102 #[.int .i64 1,.int .i64 y,.int .i64 z]):=by rw [← hwy];exact (Blk.new _ _ _).grow (gbA (gbR _ _) _)
        have BA:Hid (Blk wy (wr.heap.size+1) 80 #[.slice none 0 0,.slice none 0 0]):=by rw [← hwy];exact Blk.new' _ _ _ _ (by simp)
        have zy:Hid (wy.heap.size=wr.heap.size+2):=by rw [← hwy];exact zH (by simp)
        rw [hwy];clear hwy q0 q1 q2 x1;obtain ⟨gA,hgA'⟩:∃q,wr.heap.size+1=q:=⟨_,rfl⟩;have hgA:wr.heap.size≤gA:=by omega
        have hgAl:gA<wy.heap.size:=by have:=zy.out;omega
        have hgAn:wr.heap.size≠gA:=by omega
        rw [hgA'] at BA ⊢;clear hgA' zy;have G1Y:=zH (gbT HG.out GY.out);have s1:=BS.out.cell 1;have k0:=(D0.out.grow G1Y.out).cell 0;have k1:=(D0.out.grow G1Y.out).cell 1;have t0:=(D2.out.grow G1Y.out).cell 0;have t1:=(D2.out.grow G1Y.out).cell 1;simp at s1 k0 k1 t0 t1;have S1:=zH s1;have K0:=zH k0;have K1:=zH k1;have T0:=zH t0;have T1:=zH t1;have hyz:=GY.out.size;clear s1 k0 k1 t0 t1;have hin:=HSB.out;unfold stepB at hin;simp [inB] at hin;obtain ⟨yn,rfl⟩:=Int.eq_ofNat_of_zero_le (show 0≤y by omega);have hy60:yn<60:=by omega
        have i9:(yn:Int)<60:=by omega
        obtain ⟨ib,io,hIe,hib,hic⟩:=(HI.out.grow G1Y.out).at_ (by omega);subst hIe;have IN:=zH (hic yn hy60)
        have EV:Hid (elemB k.p (ins.getD yn 0)=true):=by
          have h5:=KH EB.out yn;exact zH (Yi (ZI EB.out).1 h5.1 h5.2)
        have hin9:initV k c P s ins j=ZL k P (keyN s 9 j) 0 (ins.getD yn 0):=by
          unfold initV;rw [HST.out];simp
        obtain ⟨kn,hkn⟩:∃q,keyN s 9 j=q:=⟨_,rfl⟩;have hknl:kn<4294967296:=by rw [← hkn];exact Wf hs1 (by omega) (by omega)
        obtain ⟨iv,hiv⟩:∃q,ins.getD yn 0=q:=⟨_,rfl⟩;rw [hkn,hiv] at hin9;rw [hiv] at IN EV;obtain ⟨au,hau⟩:∃q,ZL k P kn 0 iv=q:=⟨_,rfl⟩;rw [hau] at hin9;have HAU:=zH hau;have HIN9:=zH hin9;have HKN:=zH hkn;clear hin hic hib hiv hau hin9
        refine Xz [onT 69 (isV (.agg #[.int .i64 k.p,.slice KA k.al.length kc])),
           onT 70 (isV (.slice (some ⟨ib,io,none⟩) 60 ci)),
           onT 71 (isV (.pointer (some ⟨wr.heap.size,1,none⟩))),
           onT 72 (isV (.int .i64 yn)),
           onT 73 (isV (.pointer (some ⟨ib,io+yn,none⟩))),
           onT 74 (isV (.int .i64 iv)),
           onT 75 (isV (.agg #[.int .i64 s,.int .i64 a])),
           onT 76 (isV (.int .i64 j)),
           ⟨[77],fun l w'=>l.getD 0 undef=.agg #[.int .i64 kn,.int .i64 0]⟩,
           ⟨[78],fun l w'=>aTupE wy.heap.size au (l.getD 0 undef) w'⟩,
           ⟨[68],fun l w'=>aTupE wy.heap.size au (l.getD 0 undef) w'⟩,
           ⟨[79],fun l w'=>autF wy.heap.size au (l.getD 0 undef) w'⟩,
           ⟨[],fun l w'=>True⟩,
           ⟨[],fun l w'=>autX wy.heap.size gA au w'∧Chg (fun y=>y=gA) wy w'⟩] [(13,gA)] (by kernel_rfl) (by kernel_rfl) (by kernel_rfl) ?_ ?_ ?_
        · exact Zc (Zh (Zb _)) (Zc (Zh (Zb _)) (Zc (Zh (Zb _)) (Zc (Zh (Zb _)) (Zc (Zh (Zb _)) (Zc (Zh (Zb _)) (Zc (Zh (Zb _)) (Zc (Zh (Zb _)) (Zc (Zo fun l w1 w2 h hg=>h) (Zc (Zo fun l w1 w2 h hg=>Kg _ _ _ h hg) (Zc (Zo fun l w1 w2 h hg=>Kg _ _ _ h hg) (Zc (Zo fun l w1 w2 h hg=>ZR _ _ _ h hg) (Zc (Zo fun l w1 w2 h hg=>h) (Zc (Zo fun l w1 w2 ⟨h1,h2⟩ hg=>⟨h1.grow hg,h2.trans (Chg.of hg (by simp))⟩) ZX)))))))))))))
        · simp only [hops6,and_true]
          refine ⟨?_, ?_, ?_, ?_, ?_, ?_, ?_, ?_, ?_, ?_, ?_, ?_, ?_, ?_⟩
          · intro f w4 hG hpre hold hd
            have hgd:=gb6 hG hpre (by kernel_rfl);have hg4:=gbT (gbD (gbR wy none)) hgd;have hz4:=hg4.size;have k0:=gbk hg4 (K0.out);have k1:=gbk hg4 (K1.out)
            (try simp at hd)
            first | simp [hd] | simp
            try clear hd
            go_wp2_with fail;exact ⟨_,rfl,by simp [fAt,Zy,Zn,isV],Or.inl (gbR _ _)⟩
          · intro f w4 hG hpre hold hd
            have hgd:=gb6 hG hpre (by kernel_rfl);have hg4:=gbT (gbD (gbR wy none)) hgd;have hz4:=hg4.size
            (try simp at hd)
            first | simp [hd] | simp
            try clear hd
            go_wp2_with fail;exact ⟨_,rfl,by simp [fAt,Zy,Zn,isV],Or.inl (gbR _ _)⟩
          · intro f w4 hG hpre hold hd
            have hgd:=gb6 hG hpre (by kernel_rfl);have hg4:=gbT (gbD (gbR wy none)) hgd;have hz4:=hg4.size
            (try simp at hd)
            first | simp [hd] | simp
            try clear hd
            go_wp2_with fail;exact ⟨_,rfl,by simp [fAt,Zy,Zn,isV],Or.inl (gbR _ _)⟩
          · intro f w4 hG hpre hold hd
            have hgd:=gb6 hG hpre (by kernel_rfl);have hg4:=gbT (gbD (gbR wy none)) hgd;have hz4:=hg4.size;have k2:=gbk hg4 (S1.out)
            (try simp at hd)
            first | simp [hd] | simp
            try clear hd
            go_wp2_with fail;exact ⟨_,rfl,by simp [fAt,Zy,Zn,isV],Or.inl (gbR _ _)⟩
          · intro f w4 hG hpre hold hd
            have hgd:=gb6 hG hpre (by kernel_rfl);have hg4:=gbT (gbD (gbR wy none)) hgd;have hz4:=hg4.size
            (try simp at hd)
            first | simp [hd] | simp
            try clear hd
            go_wp2_with fail;exact ⟨_,rfl,by simp [fAt,Zy,Zn,isV],Or.inl (gbR _ _)⟩
          · intro f w4 hG hpre hold hd
            have hgd:=gb6 hG hpre (by kernel_rfl);have hg4:=gbT (gbD (gbR wy none)) hgd;have hz4:=hg4.size;have k3:=gbk hg4 (IN.out)
            (try simp at hd)
            first | simp [hd] | simp
            try clear hd
            go_wp2_with fail;exact ⟨_,rfl,by simp [fAt,Zy,Zn,isV],Or.inl (gbR _ _)⟩
          · intro f w4 hG hpre hold hd
            have hgd:=gb6 hG hpre (by kernel_rfl);have hg4:=gbT (gbD (gbR wy none)) hgd;have hz4:=hg4.size;have k4:=gbk hg4 (T0.out);have k5:=gbk hg4 (T1.out)
            (try simp at hd)
            first | simp [hd] | simp
            try clear hd
            go_wp2_with fail;exact ⟨_,rfl,by simp [fAt,Zy,Zn,isV],Or.inl (gbR _ _)⟩
          · intro f w4 hG hpre hold hd
            have hgd:=gb6 hG hpre (by kernel_rfl);have hg4:=gbT (gbD (gbR wy none)) hgd;have hz4:=hg4.size
            (try simp at hd)
            first | simp [hd] | simp
            try clear hd
            go_wp2_with fail;exact ⟨_,rfl,by simp [fAt,Zy,Zn,isV],Or.inl (gbR _ _)⟩
          · intro f w4 hG hpre hold hd
            have hgd:=gb6 hG hpre (by kernel_rfl);have hg4:=gbT (gbD (gbR wy none)) hgd;have hz4:=hg4.size
            (try simp at hd)
            simp [puts,dsts,Act.put,hd];clear hd;go_wp2_with fail;refine (Xb s a j w4 hs1 (by omega) (by omega)).mono ?_;rintro e w6 ⟨rfl,g6⟩;rw [hkn];have G6:=zH g6;clear g6;go_wp2_with fail;exact ⟨_,rfl,rfl,Or.inl G6.out⟩
          · intro f w4 hG hpre hold hd
            have hgd:=gb6 hG hpre (by kernel_rfl);have hg4:=gbT (gbD (gbR wy none)) hgd;have hz4:=hg4.size
            (try simp at hd)
            have e77:f 77=.agg #[.int .i64 kn,.int .i64 0]:=by first | exact hd.2.2 | exact hd.2.2.1
            simp [puts,dsts,Act.put,hd,e77];clear hd e77;go_wp2_with fail;refine (VA k P kn 0 iv _ w4 (AggR.grow HK.out (gbT G1Y.out hg4)) WK.out KB.out HHP.out EV.out hknl (by omega)).mono ?_;rintro e w6 ⟨v6,rfl,o6,g6⟩;rw [HAU.out] at o6;obtain ⟨Aa,na,ca,Ba,qa,da,rfl⟩:=o6.form;have O6:=zH (autF.lo o6 (show wy.heap.size≤w4.heap.size from hg4.size));have G6:=zH g6;clear o6 g6;go_wp2_with fail;exact ⟨_,rfl,⟨_,_,_,_,_,_,_,rfl,O6.out⟩,Or.inl G6.out⟩
          · intro f w4 hG hpre hold hd
            have hgd:=gb6 hG hpre (by kernel_rfl);have hg4:=gbT (gbD (gbR wy none)) hgd;have hz4:=hg4.size
            (try simp at hd)
            obtain ⟨t9,Aa,na,ca,Ba,qa,da,e89,o6⟩:=hd;have e89:f 78=_:=e89;simp [puts,dsts,Act.put,e89];go_wp2_with fail;exact ⟨_,rfl,⟨_,_,_,_,_,_,_,rfl,o6⟩,Or.inl (gbR _ _)⟩
          · intro f w4 hG hpre hold hd
            have hgd:=gb6 hG hpre (by kernel_rfl);have hg4:=gbT (gbD (gbR wy none)) hgd;have hz4:=hg4.size
            (try simp at hd)
            obtain ⟨t9,Aa,na,ca,Ba,qa,da,e89,o6⟩:=hd;have e89:f 68=_:=e89;simp [puts,dsts,Act.put,e89];go_wp2_with fail;exact ⟨_,rfl,o6,Or.inl (gbR _ _)⟩
          · intro f w4 hG hpre hold hd
            (try simp at hd)
            obtain ⟨t9,Aa,na,ca,Ba,qa,da,e89,o6⟩:=hd;have e89:f 68=_:=e89;simp [puts,dsts,Act.put,e89];go_wp2_with fail;exact ⟨_,rfl,trivial,Or.inl (gbR _ _)⟩
          · intro f w4 hG hpre hold hd
            have hgd:=gb6 hG hpre (by kernel_rfl);have hg4:=gbT (gbD (gbR wy none)) hgd;have hz4:=hg4.size
            (try simp at hd)
            have h77:autF wy.heap.size au (f 79) w4:=by first | exact hd | exact hd.1 | exact hd.2.1
            obtain ⟨A9,n9,c9,B9,q9,d9,e77⟩:=h77.form;rw [e77] at h77;have R4:=BA.out.grow hg4;have f0:=R4.frozen 0;have f1:=R4.frozen 1;have b0:=R4.cell 0;have b1:=R4.cell 1;simp at b0 b1;have RS:=zH (Yf R4 (.slice A9 n9 c9) (.slice B9 q9 d9));have hch2:=(chgS w4 gA 0 (.slice A9 n9 c9)).trans (chgS _ gA 1 (.slice B9 q9 d9));have A1:=zH (h77.chg hch2 hgAl);have CS:=zH ((Chg.of (S:=fun y=>y=gA) hg4 (by simp)).trans hch2);clear R4 h77;simp [puts,dsts,Act.put,e77];go_wp2_with fail;exact ⟨rfl,⟨.bool false,⟨_,_,_,_,_,_,A1.out,RS.out⟩,CS.out⟩,Or.inr ⟨hch2.mono (fun y hy=>.inr (by simp [hy])),⟨fun _ h=>h,fun _ h=>h,fun _ h=>h,fun _ h=>h,fun _ h=>h,fun _ h=>h,fun _ h=>h,fun _ h=>h,fun _ h=>h,fun _ h=>UQ h hch2 hgAl,fun _ h=>UQ h hch2 hgAl,fun _ h=>autF.chg h hch2 hgAl,fun _ h=>h,fun h _=>absurd rfl h,trivial⟩⟩⟩
        intro f w8 hG hd;have hI:=Yh hd (i:=13) rfl;simp only [puts,dsts,Act.put,zB,zC,zA,zD,zE];obtain ⟨⟨A9,n9,c9,B9,k9,d9,hA,hB⟩,hC⟩:=hI;have AX:=zH hA;have BA8:=zH hB;have HC8:=zH hC;have s0:=(BS.out.chg hC hgAn).cell 0;simp at s0;clear hd hA hB hC S1 K0 K1 T0 T1 IN BS BA;have G8:=gbChg (gbT (gbR wr none) GY.out) HC8.out (fun y hy=>by subst hy;exact hgA);have V8:=gbk G8 v5;have HC9:=zH (gbT HG.out G8);obtain ⟨Ax,nx,cx,Bx,kx,dx,Fx,eu,hx,lx⟩:=AX.out.own;injection eu with eu;injection eu with eu;injection eu with eu1 eu;injection eu with eu2 _;injection eu1 with e1 e2 e3;injection eu2 with e4 e5 e6;subst e1;subst e2;subst e3;subst e4;subst e5;subst e6;obtain ⟨vs,ho,hob,hpush⟩:=Wm (Zi _ O5.out G8);rw [hk'] at ho hpush;have HO9:=zH ho;have HOB:=zH hob;have HPU:=zH hpush;have HX9:=zH hx;have LX:=zH lx;have GG8:=zH G8;have a0:=BA8.out.cell 0;have a1:=BA8.out.cell 1;simp at a0 a1;clear ho hob hpush hx lx G8 v5
        go_wp2_with (at_builtin;refine XT w8 (w8).heap.size rfl elAuth rfl (.tmp 93) (.tmp 95) rfl #[.slice A9 n9 c9,.slice B9 k9 d9] rfl (by simp [Value.oneCell']) 0 (.slice V j d5) j vs HO9.out rfl rfl (by unfold maxLen;omega) (by omega) (Nat.zero_le _) ?_;intro v' w7 o7 g7a k7;have O7:=zH o7;have G7:=zH g7a;have K7:=zH k7;clear o7 g7a k7 V8 a0 a1;obtain ⟨B',s',rfl,_,_⟩:=ZB O7.out;have g7:=gbT (gbA (gbR (w8) _) _) G7.out;have CH7:Chg (fun y=>y∈F5) wr w7:=(Chg.of GG8.out (by simp)).trans (Chg.of g7 (fun g hg=>HOB.out g hg));have b5:=CH7.cell V5.out SG.out.ltg G5.out;have q5:=CH7.frozen FZ.out SG.out.ltg G5.out;have HCH:=zH CH7;have HG7:=zH g7;clear CH7 g7)
        have hx7:=HX9.out.chg (Chg.of (S:=fun y=>(Value.slice V j d5).ownBlock=some y) HG7.out (fun g hg=>hg)) (fun y hy hy'=>by have:=LX.out y hy;have:=LT5.out y (HOB.out y hy');omega)
        obtain ⟨F',p1,p2⟩:=HPU.out w7 _ _ _ _ Fx O7.out HG7.out (fun g hg=>(K7.out g hg).imp id (fun h=>Nat.le_of_lt h)) hx7 (fun y hy hy'=>by have:=LX.out y hy;have:=LT5.out y hy';omega) (fun y hy hy'=>by
          rcases K7.out y hy with h3 | h3
          · have:=LX.out y hy';have:=LT5.out y (HOB.out y h3.symm);omega
          · have:=HX9.out.lt y hy';omega)
        have hfl:(initL k c P s ins).take j ++ [au]=(initL k c P s ins).take (j+1):=by
          rw [List.take_add_one,show (initL k c P s ins)[j]?=some (au) by rw [Jz (by rw [Xp,LN.out];exact hlt),UM _ _ _ _ _ (by rw [LN.out];exact hlt),HIN9.out]];rfl
        rw [hfl] at p1
        obtain ⟨F'',s1,s2⟩:=UP.out w7 _ _ _ HCH.out p1 (fun y hy=>by
          rcases p2 y hy with h3 | h3 | h3
          · exact .inl h3
          · exact .inr (by have:=GG8.out.size;omega)
          · exact .inr (by have:=LX.out y h3;omega))
        have J1:=zH s1;have J2:=zH s2;have J3:=zH (gbS (gbChg HG.out HCH.out (fun y hy=>by have:=HL.out y (M5.out y hy);omega)) (p:=⟨g,5,none⟩) (by simp;omega) (.slice B' (j+1) s'));clear hx7 p1 p2 hfl s1 s2;go_wp2_with fail
        go_roundw
        case rel=>exact ⟨j+1,F'',by omega,by go_num,J1,zH (fun x hx=>by
          rcases J2.out x hx with h3 | h3
          · exact HL.out x h3
          · have:=HG.out.size;omega),J3⟩
        case measure=>simp [intOf];omega
      have e1:(x == 1)=false:=by simpa using h1
      by_cases h2:x=2
      · subst h2
        go_wp2_with fail;obtain ⟨wy,hwy⟩:∃q:World,(wr.alloc (.cells #[.int .i64 2,.int .i64 y,.int .i64 z] 102)).alloc (.cells #[.slice none 0 0,.slice none 0 0] 80)=q:=⟨_,rfl⟩;have GY:Hid (wr.grownBy wy none):=by rw [← hwy];exact gbA (gbA (gbR _ _) _) _
        have BS:Hid (Blk wy wr.heap.size 102 #[.int .i64 2,.int .i64 y,.int .i64 z]):=by rw [← hwy];exact (Blk.new _ _ _).grow (gbA (gbR _ _) _)
        have BA:Hid (Blk wy (wr.heap.size+1) 80 #[.slice none 0 0,.slice none 0 0]):=by rw [← hwy];exact Blk.new' _ _ _ _ (by simp)
        have zy:Hid (wy.heap.size=wr.heap.size+2):=by rw [← hwy];exact zH (by simp)
        rw [hwy];clear hwy q0 q1 q2 x1;obtain ⟨gA,hgA'⟩:∃q,wr.heap.size+1=q:=⟨_,rfl⟩;have hgA:wr.heap.size≤gA:=by omega
        have hgAl:gA<wy.heap.size:=by have:=zy.out;omega
        have hgAn:wr.heap.size≠gA:=by omega
        rw [hgA'] at BA ⊢;clear hgA' zy;have G1Y:=zH (gbT HG.out GY.out);have s1:=BS.out.cell 1;have k0:=(D0.out.grow G1Y.out).cell 0;have k1:=(D0.out.grow G1Y.out).cell 1;have t0:=(D2.out.grow G1Y.out).cell 0;have t1:=(D2.out.grow G1Y.out).cell 1;simp at s1 k0 k1 t0 t1;have S1:=zH s1;have K0:=zH k0;have K1:=zH k1;have T0:=zH t0;have T1:=zH t1;have hyz:=GY.out.size;clear s1 k0 k1 t0 t1;have hin:=HSB.out;unfold stepB at hin;simp at hin;have hy9:=hin.1;clear hin;rw [← HPP.out] at hy9;have EY:=zH hy9
        have hin9:initV k c P s ins j=ZH k (zerosA k.al.length) y:=by
          unfold initV;rw [HST.out];simp
        obtain ⟨au,hau⟩:∃q,ZH k (zerosA k.al.length) y=q:=⟨_,rfl⟩;rw [hau] at hin9;have HAU:=zH hau;have HIN9:=zH hin9;clear hy9 hau hin9
        refine Zg [.rd (.agg #[.int .i64 k.p,.slice KA k.al.length kc]),.rd (.pointer (some ⟨w0.heap.size,1,none⟩)),.rd (.slice KA k.al.length kc),.rd (.int .i64 k.al.length),.fl (zroF k.al.length),.rd (.pointer (some ⟨wr.heap.size,1,none⟩)),.rd (.int .i64 y),.fl (autF wy.heap.size au),.ch] (fun _=>False)
          [⟨[],fun _ w'=>wy.drew.grownBy w' none⟩,
           ⟨[],fun _ w'=>autX wy.heap.size gA au w'∧Chg (fun y=>y=gA) wy w'⟩]
          (by kernel_rfl) (by kernel_rfl) (by kernel_rfl) 1 (by kernel_rfl) ?_ (gbR _ _) rfl ?_ ?_
        · have hst:Zw [⟨[],fun _ w'=>wy.drew.grownBy w' none⟩,⟨[],fun _ w'=>autX wy.heap.size gA au w'∧Chg (fun y=>y=gA) wy w'⟩]:=by
            refine Zc (fun l w1 w2 h hg=>gbT h hg) ?_;exact Zc (Zo fun l w1 w2 ⟨h1,h2⟩ hg=>⟨h1.grow hg,h2.trans (Chg.of hg (by simp))⟩) ZX
          simp only [flOk,true_and,and_true];exact ⟨⟨zroF_st,hst⟩,⟨ZR,hst⟩⟩
        · simp only [hopsK,hopK,Kd.next,and_true]
          refine ⟨?_, ?_, ?_, ?_, ?_, ?_, ?_, ?_, ?_⟩;rotate_left 4
          · intro f w4 hG hd
            have hg4:=gbT (gbD (gbR wy none)) (chgF hG);have hz4:=hg4.size
            (try simp at hd)
            (first | simp [hd] | simp)
            clear hd;go_wp2_with fail;refine (specl28Zero_c k.al.length w4 (by omega)).mono ?_;rintro e w6 ⟨v6,rfl,o6,g6⟩;obtain ⟨Aa,ca,Ab,cb,rfl,hz⟩:=o6;have HZ:=zH hz;have G6:=zH g6;clear hz g6;go_wp2_with fail;exact ⟨_,rfl,⟨Aa,ca,Ab,cb,rfl,HZ.out⟩,G6.out⟩
          rotate_left 2
          · intro f w4 hG hd
            have hg4:=gbT (gbD (gbR wy none)) (chgF hG);have hz4:=hg4.size
            (try simp at hd)
            obtain ⟨e84,h88,e90⟩:=hd;obtain ⟨Aa,ca,Ab,cb,e88,hz⟩:=h88;have HZ:=zH hz;simp [puts,dsts,Act.put,e84,e88,e90];clear e84 e88 e90 hz;go_wp2_with fail;refine (Vt k (zerosA k.al.length) y _ _ w4 (AggR.grow HK.out (gbT G1Y.out hg4)) HZ.out WK.out ⟨by simp [zerosA];omega,by simp [zerosA];omega⟩).mono ?_;rintro e w6 ⟨v6,rfl,o6,g6⟩;rw [HAU.out] at o6;have O6:=zH (autF.lo o6 (show wy.heap.size≤w4.heap.size from hg4.size));have G6:=zH g6;clear o6 g6;go_wp2_with fail;exact ⟨_,rfl,O6.out,G6.out⟩
          · intro f w4 hG hI hd
            have hg4:=gbT (gbD (gbR wy none)) (chgF hG);have hz4:=hg4.size;have hI:wy.drew.grownBy w4 none:=hI
            (try simp at hd)
            have h77:autF wy.heap.size au (f 91) w4:=by first | exact hd | exact hd.1 | exact hd.2.1
            obtain ⟨A9,n9,c9,B9,q9,d9,e77⟩:=h77.form;rw [e77] at h77;have R4:=BA.out.grow hg4;have f0:=R4.frozen 0;have f1:=R4.frozen 1;have b0:=R4.cell 0;have b1:=R4.cell 1;simp at b0 b1;have RS:=zH (Yf R4 (.slice A9 n9 c9) (.slice B9 q9 d9));have hch2:=(chgS w4 gA 0 (.slice A9 n9 c9)).trans (chgS _ gA 1 (.slice B9 q9 d9));have A1:=zH (h77.chg hch2 hgAl);have CS:=zH ((Chg.of (S:=fun y=>y=gA) hg4 (by simp)).trans hch2);clear R4 h77 hd;simp [puts,dsts,Act.put,e77];go_wp2_with fail;exact ⟨rfl,.bool false,⟨_,_,_,_,_,_,A1.out,RS.out⟩,CS.out⟩
          all_goals
            intro f w4 hG hd;have hg4:=gbT (gbD (gbR wy none)) (chgF hG);have k0:=gbk hg4 (K0.out);have k1:=gbk hg4 (K1.out);have k2:=gbk hg4 (S1.out)
            (try simp at hd)
            (first | simp [hd] | simp)
            clear hd;go_wp2_with fail;exact ⟨rfl,rfl⟩
        intro f w8 hI hd;simp only [puts,dsts,Act.put,zB,zC,zA,zD,zE];obtain ⟨⟨A9,n9,c9,B9,k9,d9,hA,hB⟩,hC⟩:=hI;have AX:=zH hA;have BA8:=zH hB;have HC8:=zH hC;clear hd hA hB hC S1 K0 K1 T0 T1 BS BA;have G8:=gbChg (gbT (gbR wr none) GY.out) HC8.out (fun y hy=>by subst hy;exact hgA);have V8:=gbk G8 v5;have HC9:=zH (gbT HG.out G8);obtain ⟨Ax,nx,cx,Bx,kx,dx,Fx,eu,hx,lx⟩:=AX.out.own;injection eu with eu;injection eu with eu;injection eu with eu1 eu;injection eu with eu2 _;injection eu1 with e1 e2 e3;injection eu2 with e4 e5 e6;subst e1;subst e2;subst e3;subst e4;subst e5;subst e6;obtain ⟨vs,ho,hob,hpush⟩:=Wm (Zi _ O5.out G8);rw [hk'] at ho hpush;have HO9:=zH ho;have HOB:=zH hob;have HPU:=zH hpush;have HX9:=zH hx;have LX:=zH lx;have GG8:=zH G8;have a0:=BA8.out.cell 0;have a1:=BA8.out.cell 1;simp at a0 a1;clear ho hob hpush hx lx G8 v5
        go_wp2_with (at_builtin;refine XT w8 (w8).heap.size rfl elAuth rfl (.tmp 93) (.tmp 95) rfl #[.slice A9 n9 c9,.slice B9 k9 d9] rfl (by simp [Value.oneCell']) 0 (.slice V j d5) j vs HO9.out rfl rfl (by unfold maxLen;omega) (by omega) (Nat.zero_le _) ?_;intro v' w7 o7 g7a k7;have O7:=zH o7;have G7:=zH g7a;have K7:=zH k7;clear o7 g7a k7 V8 a0 a1;obtain ⟨B',s',rfl,_,_⟩:=ZB O7.out;have g7:=gbT (gbA (gbR (w8) _) _) G7.out;have CH7:Chg (fun y=>y∈F5) wr w7:=(Chg.of GG8.out (by simp)).trans (Chg.of g7 (fun g hg=>HOB.out g hg));have b5:=CH7.cell V5.out SG.out.ltg G5.out;have q5:=CH7.frozen FZ.out SG.out.ltg G5.out;have HCH:=zH CH7;have HG7:=zH g7;clear CH7 g7)
        have hx7:=HX9.out.chg (Chg.of (S:=fun y=>(Value.slice V j d5).ownBlock=some y) HG7.out (fun g hg=>hg)) (fun y hy hy'=>by have:=LX.out y hy;have:=LT5.out y (HOB.out y hy');omega)
        obtain ⟨F',p1,p2⟩:=HPU.out w7 _ _ _ _ Fx O7.out HG7.out (fun g hg=>(K7.out g hg).imp id (fun h=>Nat.le_of_lt h)) hx7 (fun y hy hy'=>by have:=LX.out y hy;have:=LT5.out y hy';omega) (fun y hy hy'=>by
          rcases K7.out y hy with h3 | h3
          · have:=LX.out y hy';have:=LT5.out y (HOB.out y h3.symm);omega
          · have:=HX9.out.lt y hy';omega)
        have hfl:(initL k c P s ins).take j ++ [au]=(initL k c P s ins).take (j+1):=by
          rw [List.take_add_one,show (initL k c P s ins)[j]?=some (au) by rw [Jz (by rw [Xp,LN.out];exact hlt),UM _ _ _ _ _ (by rw [LN.out];exact hlt),HIN9.out]];rfl
        rw [hfl] at p1
        obtain ⟨F'',s1,s2⟩:=UP.out w7 _ _ _ HCH.out p1 (fun y hy=>by
          rcases p2 y hy with h3 | h3 | h3
          · exact .inl h3
          · exact .inr (by have:=GG8.out.size;omega)
          · exact .inr (by have:=LX.out y h3;omega))
        have J1:=zH s1;have J2:=zH s2;have J3:=zH (gbS (gbChg HG.out HCH.out (fun y hy=>by have:=HL.out y (M5.out y hy);omega)) (p:=⟨g,5,none⟩) (by simp;omega) (.slice B' (j+1) s'));clear hx7 p1 p2 hfl s1 s2;go_wp2_with fail
        go_roundw
        case rel=>exact ⟨j+1,F'',by omega,by go_num,J1,zH (fun x hx=>by
          rcases J2.out x hx with h3 | h3
          · exact HL.out x h3
          · have:=HG.out.size;omega),J3⟩
        case measure=>simp [intOf];omega
      have e2:(x == 2)=false:=by simpa using h2
      have HIN9:Hid (initV k c P s ins j=noA):=by
        unfold Hid initV;rw [HST.out];simp [h1,h2]
      clear h1 h2;obtain ⟨wy,hwy⟩:∃q:World,(wr.alloc (.cells #[.int .i64 x,.int .i64 y,.int .i64 z] 102)).alloc (.cells #[.slice none 0 0,.slice none 0 0] 80)=q:=⟨_,rfl⟩;have GY:Hid (wr.grownBy wy none):=by rw [← hwy];exact gbA (gbA (gbR _ _) _) _
      have BS:Hid (Blk wy wr.heap.size 102 #[.int .i64 x,.int .i64 y,.int .i64 z]):=by rw [← hwy];exact (Blk.new _ _ _).grow (gbA (gbR _ _) _)
      have BA:Hid (Blk wy (wr.heap.size+1) 80 #[.slice none 0 0,.slice none 0 0]):=by rw [← hwy];exact Blk.new' _ _ _ _ (by simp)
      have zy:Hid (wy.heap.size=wr.heap.size+2):=by rw [← hwy];exact zH (by simp)
      obtain ⟨gA,hgA'⟩:∃q,wr.heap.size+1=q:=⟨_,rfl⟩;have hgA:wr.heap.size≤gA:=by omega
      have hgAl:gA<wy.heap.size:=by have:=zy.out;omega
      have hgAn:wr.heap.size≠gA:=by omega
      rw [hgA'] at BA;clear zy;have HWY:=zH hwy;have VY9:=kA (kA v5 (.cells #[.int .i64 x,.int .i64 y,.int .i64 z] 102)) (.cells #[.slice none 0 0,.slice none 0 0] 80);clear hwy v5;have AX:=zH (autF_no wy.heap.size wy);have BA8:=BA;have HC8:Hid (Chg (fun y=>y=gA) wy wy):=zH (Chg.refl _ _);clear BS BA;have v5:=V5.out;have G8:=gbChg (gbT (gbR wr none) GY.out) HC8.out (fun y hy=>by subst hy;exact hgA);have V8:=gbk G8 v5;have HC9:=zH (gbT HG.out G8);obtain ⟨Ax,nx,cx,Bx,kx,dx,Fx,eu,hx,lx⟩:=AX.out.own;injection eu with eu;injection eu with eu;injection eu with eu1 eu;injection eu with eu2 _;injection eu1 with e1 e2 e3;injection eu2 with e4 e5 e6;subst e1;subst e2;subst e3;subst e4;subst e5;subst e6;obtain ⟨vs,ho,hob,hpush⟩:=Wm (Zi _ O5.out G8);rw [hk'] at ho hpush;have HO9:=zH ho;have HOB:=zH hob;have HPU:=zH hpush;have HX9:=zH hx;have LX:=zH lx;have GG8:=zH G8;have a0:=BA8.out.cell 0;have a1:=BA8.out.cell 1;simp at a0 a1;clear ho hob hpush hx lx G8;clear a0 a1 V8;have V8:=VY9
      go_wp2_with (at_builtin;refine XT _ (gA+1) (by rw [← hgA'];simp) elAuth rfl (.tmp 93) (.tmp 95) rfl #[.slice none 0 0,.slice none 0 0] rfl (by simp [Value.oneCell']) 0 (.slice V j d5) j vs (by rw [HWY.out];exact HO9.out) rfl rfl (by unfold maxLen;omega) (by omega) (Nat.zero_le _) ?_;intro v' w7 o7 g7a k7;have O7:=zH o7;have G7:Hid ((wy.alloc (.cells #[.slice none 0 0,.slice none 0 0] 80)).grownBy w7 (Value.slice V j d5).ownBlock):=(by rw [← HWY.out];exact zH g7a);have K7:Hid (∀g,v'.ownBlock=some g→some g=(Value.slice V j d5).ownBlock∨wy.heap.size<g):=(by rw [← HWY.out];exact zH k7);clear o7 g7a k7 V8 q0 q1 q2 x1;obtain ⟨B',s',rfl,_,_⟩:=ZB O7.out;have g7:=gbT (gbA (gbR (wy) _) _) G7.out;have CH7:Chg (fun y=>y∈F5) wr w7:=(Chg.of GG8.out (by simp)).trans (Chg.of g7 (fun g hg=>HOB.out g hg));have b5:=CH7.cell V5.out SG.out.ltg G5.out;have q5:=CH7.frozen FZ.out SG.out.ltg G5.out;have HCH:=zH CH7;have HG7:=zH g7;clear CH7 g7)
      have hx7:=HX9.out.chg (Chg.of (S:=fun y=>(Value.slice V j d5).ownBlock=some y) HG7.out (fun g hg=>hg)) (fun y hy hy'=>by have:=LX.out y hy;have:=LT5.out y (HOB.out y hy');omega)
      obtain ⟨F',p1,p2⟩:=HPU.out w7 _ _ _ _ Fx O7.out HG7.out (fun g hg=>(K7.out g hg).imp id (fun h=>Nat.le_of_lt h)) hx7 (fun y hy hy'=>by have:=LX.out y hy;have:=LT5.out y hy';omega) (fun y hy hy'=>by
        rcases K7.out y hy with h3 | h3
        · have:=LX.out y hy';have:=LT5.out y (HOB.out y h3.symm);omega
        · have:=HX9.out.lt y hy';omega)
      have hfl:(initL k c P s ins).take j ++ [noA]=(initL k c P s ins).take (j+1):=by
        rw [List.take_add_one,show (initL k c P s ins)[j]?=some (noA) by rw [Jz (by rw [Xp,LN.out];exact hlt),UM _ _ _ _ _ (by rw [LN.out];exact hlt),HIN9.out]];rfl
      rw [hfl] at p1
      obtain ⟨F'',s1,s2⟩:=UP.out w7 _ _ _ HCH.out p1 (fun y hy=>by
        rcases p2 y hy with h3 | h3 | h3
        · exact .inl h3
        · exact .inr (by have:=GG8.out.size;omega)
        · exact .inr (by have:=LX.out y h3;omega))
      have J1:=zH s1;have J2:=zH s2;have J3:=zH (gbS (gbChg HG.out HCH.out (fun y hy=>by have:=HL.out y (M5.out y hy);omega)) (p:=⟨g,5,none⟩) (by simp;omega) (.slice B' (j+1) s'));clear hx7 p1 p2 hfl s1 s2;go_wp2_with fail
      go_roundw
      case rel=>exact ⟨j+1,F'',by omega,by go_num,J1,zH (fun x hx=>by
        rcases J2.out x hx with h3 | h3
        · exact HL.out x h3
        · have:=HG.out.size;omega),J3⟩
      case measure=>simp [intOf];omega
    · have hjn:j=n:=by omega
      subst hjn;have hfa:(initL k c P s ins).take j=initL k c P s ins:=List.take_of_length_le (by rw [Xp,LN.out];exact Nat.le_refl _);rw [hfa] at SG;have HFL:Hid ((initL k c P s ins).length=c.st.length):=zH (Xp ..);have D8r:=zH (D8.out.grow HG.out);clear hfa;go_wp2_with fail;clear x1;refine (UU ⟨k,c,initL k c P s ins,[],0,false⟩ g F wr SG.out OK.out HFL.out WK.out (Ja KB.out) (initL_okV KB.out HHP.out EB.out)).mono ?_;rintro e wz ⟨rfl,F',hS,hl',hch⟩;have hS:SOF 58 (Zf (engNew k c P s ins)) g F' wz:=hS;have D8z:=D8r.out.chg hch (fun hx=>by have:=HL.out _ hx;omega);have GZ:=gbT GB.out (gbChg HG.out hch (fun i hi=>by have:=HL.out i hi;omega))
      have hlF':∀x∈F',lo≤x:=fun x hx=>by
        rcases hl' x hx with h6 | h6
        · exact HL.out x h6
        · have:=HG.out.size;omega
      obtain ⟨A',B',C',D',E',a',b',c',d',e',hB,hR⟩:=hS.eng;have HA:=hS.is (us:=[_,_,_,_,_,_,_,_,_]) hB;obtain ⟨b0,b1,b2,b3,b4,b5,b6,b7,b8⟩:=hB.c9;obtain ⟨c0,c1,c2,c3,c4,c5,c6,c7,c8⟩:=D8z.c9;obtain ⟨f0,f1,f2,f3,f4,f5,f6,f7,f8⟩:=D8z.f9;obtain ⟨m,hm⟩:∃m,engNew k c P s ins=m:=⟨_,rfl⟩;rw [hm] at b0 b1 b2 b3 b4 b5 b6 b7 b8 HA;have HM:=zH hm;have RS:=SOF.store D8z (us:=[.int .i64 m.k.p,.slice A' m.k.al.length a',.int .i64 m.c.p,.slice B' m.c.st.length b',.slice C' m.c.outs.length c',.slice D' m.vs.length d',.slice E' m.op.length e',.int .i64 m.rd,.bool m.bad]) rfl HA (fun hx=>by have:=hlF' _ hx;omega);have GS:=Zu GZ (Za gR [.int .i64 m.k.p,.slice A' m.k.al.length a',.int .i64 m.c.p,.slice B' m.c.st.length b',.slice C' m.c.outs.length c',.slice D' m.vs.length d',.slice E' m.op.length e',.int .i64 m.rd,.bool m.bad] 0 wz) (by omega);simp only [Zm,Nat.zero_add,Nat.reduceAdd] at RS GS;obtain ⟨vs,hBR,hAR⟩:=RS.agg;have HAR:=zH hAR;have HBR:=zH hBR;have GS:=zH GS;have HLF:=zH hlF';have hlz1:=z1.out;clear hS hB hR HA RS hAR hBR hl' hch D8z GZ hlF' SG HL HG hm;go_wp2_with fail;refine Xq Tryz.results39 (by rfl) Yu (cs:=vs.toArray) HBR.out (by rw [List.size_toArray];exact Vi HAR.out) (by rfl) ?_;exact ⟨_,rfl,⟨F',by rw [HM.out];exact HAR.out,fun x hx=>by have:=HLF.out x hx;omega⟩,GS.out⟩
end Go.Proofs.YthaadgdeadbhkaaGreat
