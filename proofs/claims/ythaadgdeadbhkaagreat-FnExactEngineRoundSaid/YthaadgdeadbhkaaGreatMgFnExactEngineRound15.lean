/-
 AuthAdd,AuthScale: reference and program.
-/
import Derived.Test.YthaadgdeadbhkaaGreatMgFnExactEngineRound14
open Go.RowKit
set_option linter.unusedVariables false
set_option linter.unusedSimpArgs false
namespace Go.Proofs.YthaadgdeadbhkaaGreat
attribute [local simp] depsC dstAt kAt bindE List.filter_cons Zy Zp Zq Zr Zz Yu puts dsts Act.put
def noA:AuM:=⟨[],[]⟩
def Zk (k:KM) (a b:AuM):AuM:=if formB k a&&formB k b then ⟨addS k.p a.sh b.sh,addS k.p a.mc b.mc⟩ else noA
def Ze (k:KM) (a:AuM) (c:Int):AuM:=if formB k a&&elemB k.p c then ⟨sclS k.p a.sh c,sclS k.p a.mc c⟩ else noA
theorem ZN {k:KM} {a:AuM} (h:formB k a=true):keysB k=true∧a.sh.length=k.al.length∧a.mc.length=k.al.length∧elemsB k.p a.sh=true∧elemsB k.p a.mc=true∧elemsB k.p k.al=true∧1≤k.al.length∧k.al.length≤5:=by
 unfold formB formA keysB at h;simp only [Bool.and_eq_true,beq_iff_eq] at h;obtain ⟨⟨h1,h2⟩,⟨⟨h3,h4⟩,h5⟩,h6⟩:=h;have h7:=Vl h2;refine ⟨by unfold keysB;rw [h1,h2];rfl,by omega,by omega,h5,h6,h1,by omega,by omega⟩
def row1 (lo n:Nat) (L:List Int) (v:Value) (w:World):Prop:=∃A c,v=.slice A n c∧w.ownsRow lo 3 1 v n (L.map (Value.int .i64))
def row2 (lo n m:Nat) (L M:List Int) (v u:Value) (w:World):Prop:=row1 lo n L v w∧row1 lo m M u w∧∀g,v.ownBlock=some g→u.ownBlock≠some g
theorem row1.grow {lo n:Nat} {L:List Int} {v:Value} {w w':World} (h:row1 lo n L v w) (hg:w.grownBy w' none):row1 lo n L v w':=by
 obtain ⟨A,c,h1,h2⟩:=h;exact ⟨A,c,h1,Zu h2 hg⟩
theorem row1.of {lo n:Nat} {L:List Int} {v:Value} {w:World} (h:w.ownsRow lo 3 1 v n (L.map (Value.int .i64))):row1 lo n L v w:=by
 obtain ⟨A,c,e,_⟩:=Ye h;exact ⟨A,c,e,h⟩
theorem row2.of {lo n m:Nat} {L M:List Int} {v u:Value} {w w':World} (h:row1 lo n L v w) (hg:w.grownBy w' none) (hl:lo≤w.heap.size) (k:w'.ownsRow w.heap.size 3 1 u m (M.map (Value.int .i64))):row2 lo n m L M v u w':=by
 refine ⟨h.grow hg,row1.of (ZQ k hl),fun g hg' hu => ?_⟩;obtain ⟨A,c,_,h2⟩:=h;have h3:=(h2.lt g hg').2;have h4:=(k.lt g hu).1;omega
theorem row2.agg {lo n m:Nat} {L M:List Int} {v u:Value} {w:World} (h:row2 lo n m L M v u w):∃F,AggO w (cauth ⟨L,M⟩) F (.agg #[v,u])∧∀g∈F,lo≤g:=by
 obtain ⟨⟨A,c,h1,h2⟩,⟨B,d,k1,k2⟩,h3⟩:=h;have o1:=Yi h2;have o2:=Yi k2;refine ⟨_,UU (m:=⟨L,M⟩) o1 o2 (fun g hg hg'=>h3 g (by simpa using hg) (by simpa using hg')),fun g hg => ?_⟩;simp at hg
 rcases hg with hg | hg
 ·exact (h2.lt g hg).1
 ·exact (k2.lt g hg).1
theorem row2.f1 {lo n m:Nat} {L M:List Int} {v u:Value} {w:World} (h:row2 lo n m L M v u w):∃A c,v=.slice A n c:=by
 obtain ⟨⟨A,c,h1,_⟩,_⟩:=h;exact ⟨A,c,h1⟩
theorem row2.f2 {lo n m:Nat} {L M:List Int} {v u:Value} {w:World} (h:row2 lo n m L M v u w):∃A c,u=.slice A m c:=by
 obtain ⟨_,⟨A,c,h1,_⟩,_⟩:=h;exact ⟨A,c,h1⟩
theorem Xe (w:World):AggO w (cauth noA) [[],[]].flatten (.agg #[.slice none 0 0,.slice none 0 0]):=by
 have h:(cints []).own w [] (.slice none 0 0):=Yi (n:=0) (base:=0) ⟨rfl,.inl ⟨rfl,rfl⟩⟩;exact UU (m:=noA) h h (by simp)
def autF (lo:Nat) (m:AuM) (v:Value) (w:World):Prop:=∃F,AggO w (cauth m) F v∧∀g∈F,lo≤g
theorem autF.grow {lo:Nat} {m:AuM} {v:Value} {w w':World} (h:autF lo m v w) (hg:w.grownBy w' none):autF lo m v w':=by
 obtain ⟨F,h1,h2⟩:=h;exact ⟨F,h1.grow hg,h2⟩
theorem autF.form {lo:Nat} {m:AuM} {v:Value} {w:World} (h:autF lo m v w):∃A n c B k d,v=.agg #[.slice A n c,.slice B k d]:=by
 obtain ⟨F,h1,_⟩:=h;exact XB h1
theorem autF.chg {lo g:Nat} {m:AuM} {v:Value} {w w':World} (h:autF lo m v w) (k:Chg (fun y=>y=g) w w') (hg:g<lo):autF lo m v w':=by
 obtain ⟨F,h1,h2⟩:=h;exact ⟨F,h1.chg k (fun x hx (e:x=g)=>by have:=h2 x hx;omega),h2⟩
theorem RdAll.append2 {w:World} {cs ds:List CS} {vs us:List Value} (h:RdAll w cs vs) (k:RdAll w ds us):RdAll w (cs ++ ds) (vs ++ us):=by
 refine ⟨by simp [h.1,k.1],fun i c v hc hv => ?_⟩;rw [List.getElem?_append] at hc hv;rw [h.1] at hv
 split at hc
 ·rename_i hl
  rw [if_pos hl] at hv;exact h.2 i c v hc hv
 ·rename_i hl
  rw [if_neg hl] at hv;exact k.2 _ c v hc hv
theorem autF.lo {lo lo':Nat} {m:AuM} {v:Value} {w:World} (h:autF lo m v w) (hl:lo'≤lo):autF lo' m v w:=by
 obtain ⟨F,h1,h2⟩:=h;exact ⟨F,h1,fun g hg=>Nat.le_trans hl (h2 g hg)⟩
theorem XC (p:Int) (A B:Option Addr) (n m ac bc:Nat) (xs ys:List Int) (w:World) (hm:m=n) (hx:elemsB p xs=true) (hy:elemsB p ys=true) (ha:Ints w A n xs) (hb:Ints w B m ys) (hn:n≤1048576) :
  Calls Tryz.prog 146 #[.int .i64 p,.slice A n ac,.slice B m bc] w fun e w'=>∃v,e=.returned v∧w'.ownsRow w.heap.size 3 1 v n ((addS p xs ys).map (Value.int .i64))∧w.grownBy w' none:=by
 subst hm;exact UZ p A B m ac bc xs ys w hx hy ha hb hn
theorem XD (p:Int) (A B:Option Addr) (n m ac bc:Nat) (xs ys:List Int) (w:World) (hm:m=n) (hx:elemsB p xs=true) (hy:elemsB p ys=true) (ha:Ints w A n xs) (hb:Ints w B m ys) (hn:n≤1048576) :
  Calls Tryz.prog 157 #[.int .i64 p,.slice A n ac,.slice B m bc] w fun e w'=>∃v,e=.returned v∧w'.ownsRow w.heap.size 3 1 v n ((addS p xs ys).map (Value.int .i64))∧w.grownBy w' none:=by
 subst hm;exact Qa p A B m ac bc xs ys w hx hy ha hb hn
theorem cauths_lit2 {w:World} {a b:AuM} {u0 u1 t0 t1:Value} (h:AggR w (cauth a) (.agg #[u0,u1])) (k:AggR w (cauth b) (.agg #[t0,t1])) :
  (cauths [a,b]).rd (w.alloc (.cells #[u0,u1,t0,t1] 80)) (.slice (some ⟨w.heap.size,0,none⟩) 2 2):=by
 have hg:=gbA (gbR w none) (.cells #[u0,u1,t0,t1] 80);obtain ⟨vs,e1,h1⟩:=h;obtain ⟨us,e2,k1⟩:=k;injection e1 with e1;injection e2 with e2;have e1:vs=[u0,u1]:=by have:=congrArg Array.toList e1;simpa using this.symm
 have e2:us=[t0,t1]:=by have:=congrArg Array.toList e2;simpa using this.symm
 subst e1;subst e2;refine Vp (s:=2) (vs:=[u0,u1,t0,t1]) (fun _=>rfl) rfl (Nat.le_refl _) (by unfold maxLen;omega) ?_ ⟨rfl,fun _=>⟨w.heap.size,0,rfl,by simp,fun j hj => ?_⟩⟩
 ·exact RdAll.append2 (h1.grow hg) (k1.grow hg)
 ·rw [Nat.zero_add,cell_of_row _ _ j _ _ (0,0) (heap_alloc_new w _)]
  simp
theorem Vg {w:World} {a:AuM} {u0 u1:Value} (h:AggR w (cauth a) (.agg #[u0,u1])) :
  (cauths [a]).rd (w.alloc (.cells #[u0,u1] 80)) (.slice (some ⟨w.heap.size,0,none⟩) 1 1):=by
 have hg:=gbA (gbR w none) (.cells #[u0,u1] 80);obtain ⟨vs,e1,h1⟩:=h;injection e1 with e1;have e1:vs=[u0,u1]:=by have:=congrArg Array.toList e1;simpa using this.symm
 subst e1;refine Vp (s:=2) (vs:=[u0,u1]) (fun _=>rfl) rfl (Nat.le_refl _) (by unfold maxLen;omega) ?_ ⟨rfl,fun _=>⟨w.heap.size,0,rfl,by simp,fun j hj => ?_⟩⟩
 ·exact h1.grow hg
 ·rw [Nat.zero_add,cell_of_row _ _ j _ _ (0,0) (heap_alloc_new w _)]
  simp
set_option maxHeartbeats 2000000 in
set_option maxRecDepth 100000 in
theorem Xp (k:KM) (a b:AuM) (kv av bv:Value) (w0:World) (h:AggR w0 (ckeys k) kv) (ha:AggR w0 (cauth a) av) (hb:AggR w0 (cauth b) bv) (wk:kwf k) (wa:awf a) (wb:awf b) :
  Calls Tryz.prog 148 #[kv,av,bv] w0 fun e w'=>∃v,e=.returned v∧autF w0.heap.size (Zk k a b) v w'∧w0.grownBy w' none:=by
 obtain ⟨A,c,rfl,hc,hm,hI⟩:=ZK h;obtain ⟨Ba,da,Ca,fa,rfl,_,_,_,_,hSa,hMa⟩:=ZC ha;obtain ⟨Bb,db,Cb,fb,rfl,_,_,_,_,hSb,hMb⟩:=ZC hb;obtain ⟨w1,hw1⟩:∃x:World,(((w0.alloc (.cells #[.int .i64 k.p,.slice A k.al.length c] 34)).alloc (.cells #[.slice Ba a.sh.length da,.slice Ca a.mc.length fa] 80)).alloc (.cells #[.slice Bb b.sh.length db,.slice Cb b.mc.length fb] 80)).alloc (.cells #[.slice none 0 0,.slice none 0 0] 80)=x:=⟨_,rfl⟩;have G1:Hid (w0.grownBy w1 none):=by rw [← hw1];exact gbA (gbA (gbA (gbA (gbR _ _) _) _) _) _
 have z1:Hid (w1.heap.size=w0.heap.size+4):=by rw [← hw1];exact zH (by simp)
 have D0:Hid (Blk w1 w0.heap.size 34 #[.int .i64 k.p,.slice A k.al.length c]):=by rw [← hw1];exact (((Blk.new w0 _ _).grow (gbA (gbR _ _) _)).grow (gbA (gbR _ _) _)).grow (gbA (gbR _ _) _)
 have D1:Hid (Blk w1 (w0.heap.size+1) 80 #[.slice Ba a.sh.length da,.slice Ca a.mc.length fa]):=by rw [← hw1];exact ((Blk.new' _ _ _ _ (by simp)).grow (gbA (gbR _ _) _)).grow (gbA (gbR _ _) _)
 have D2:Hid (Blk w1 (w0.heap.size+1+1) 80 #[.slice Bb b.sh.length db,.slice Cb b.mc.length fb]):=by rw [← hw1];exact (Blk.new' _ _ _ _ (by simp)).grow (gbA (gbR _ _) _)
 have D3:Hid (Blk w1 (w0.heap.size+1+1+1) 80 #[.slice none 0 0,.slice none 0 0]):=by rw [← hw1];exact Blk.new' _ _ _ _ (by simp)
 have HK:=zH (AggR.grow h G1.out);have HAa:=zH (AggR.grow ha G1.out);have HAb:=zH (AggR.grow hb G1.out);have ISa:=zH (hSa.grow G1.out);have IMa:=zH (hMa.grow G1.out);have ISb:=zH (hSb.grow G1.out);have IMb:=zH (hMb.grow G1.out);have WK:=zH wk;have WA:=zH wa;have WB:=zH wb;clear h ha hb hI hSa hMa hSb hMb wk wa wb;have HFO:Hid (Zk k a b=if formB k a&&formB k b then ⟨addS k.p a.sh b.sh,addS k.p a.mc b.mc⟩ else noA):=rfl
 go_enter Tryz.func148,Tryz.ntmps148
 have k0:=D0.out.cell 0;have k1:=D0.out.cell 1;have a0:=D1.out.cell 0;have a1:=D1.out.cell 1;have b0:=D2.out.cell 0;have b1:=D2.out.cell 1;simp at k0 k1 a0 a1 b0 b1;go_wp2_with fail;clear k0 k1 a0 a1 b0 b1 hw1;refine (Zx k a _ _ _ HK.out HAa.out WK.out WA.out).mono ?_;rintro e w2 ⟨rfl,g2⟩
 cases hfa:formB k a
 ·rw [hfa] at HFO
  have RS:=zH (Zh (D3.out.grow g2) [.slice none 0 0,.slice none 0 0] rfl);have CH:=zH (Zc (w0.heap.size+1+1+1) [.slice none 0 0,.slice none 0 0] 0 w2);have r0:=(D3.out.grow g2).cell 0;have r1:=(D3.out.grow g2).cell 1;have s0:=(D3.out.grow g2).frozen 0;have s1:=(D3.out.grow g2).frozen 1;simp at r0 r1;have GG:=zH (gbT G1.out g2);clear g2;go_wp2_with fail;refine Yo Tryz.results148 (by rfl) stAuth (cs:=#[.slice none 0 0,.slice none 0 0]) RS.out (by rfl) (by rfl) ?_;exact ⟨_,rfl,by rw [HFO.out];exact ⟨_,Xe _,by simp⟩,Zv GG.out CH.out (by omega)⟩
 have k0:=(D0.out.grow g2).cell 0;have k1:=(D0.out.grow g2).cell 1;have b0:=(D2.out.grow g2).cell 0;have b1:=(D2.out.grow g2).cell 1;simp at k0 k1 b0 b1;have Q2:=zH g2;clear g2;go_wp2_with fail;clear k0 k1 b0 b1;refine (Zx k b _ _ _ (AggR.grow HK.out Q2.out) (AggR.grow HAb.out Q2.out) WK.out WB.out).mono ?_;rintro e wz ⟨rfl,g3⟩;have gz:=gbT Q2.out g3;clear g3
 cases hfb:formB k b
 ·rw [hfa,hfb] at HFO
  have RS:=zH (Zh (D3.out.grow gz) [.slice none 0 0,.slice none 0 0] rfl);have CH:=zH (Zc (w0.heap.size+1+1+1) [.slice none 0 0,.slice none 0 0] 0 wz);have r0:=(D3.out.grow gz).cell 0;have r1:=(D3.out.grow gz).cell 1;have s0:=(D3.out.grow gz).frozen 0;have s1:=(D3.out.grow gz).frozen 1;simp at r0 r1;have GG:=zH (gbT G1.out gz);clear gz;go_wp2_with fail;refine Yo Tryz.results148 (by rfl) stAuth (cs:=#[.slice none 0 0,.slice none 0 0]) RS.out (by rfl) (by rfl) ?_;exact ⟨_,rfl,by rw [HFO.out];exact ⟨_,Xe _,by simp⟩,Zv GG.out CH.out (by omega)⟩
 rw [hfa,hfb] at HFO;obtain ⟨_,la1,la2,ea1,ea2,_,ln1,ln5⟩:=ZN hfa;obtain ⟨_,lb1,lb2,eb1,eb2,_,_,_⟩:=ZN hfb;rw [Bool.and_self,if_pos rfl] at HFO;have D0':=zH (D0.out.grow gz);have D1':=zH (D1.out.grow gz);have D2':=zH (D2.out.grow gz);have D3':=zH (D3.out.grow gz);have GW:=zH (gbT G1.out gz);have ISa':=zH (ISa.out.grow gz);have IMa':=zH (IMa.out.grow gz);have ISb':=zH (ISb.out.grow gz);have IMb':=zH (IMb.out.grow gz);have LE1:Hid (b.sh.length=a.sh.length):=zH (by omega);have LE2:Hid (b.mc.length=a.mc.length):=zH (by omega);have LN1:Hid (a.sh.length≤1048576):=zH (by omega);have LN2:Hid (a.mc.length≤1048576):=zH (by omega);have EA1:=zH ea1;have EA2:=zH ea2;have EB1:=zH eb1;have EB2:=zH eb2;have zz:=gz.size;clear la1 la2 lb1 lb2 hfa hfb gz D0 D1 D2 D3 G1 ISa IMa ISb IMb HK HAa HAb WK WA WB ea1 ea2 eb1 eb2;go_wp2_with fail;obtain ⟨lo,hlo⟩:∃lo,w0.heap.size+4=lo:=⟨_,rfl⟩;obtain ⟨gR,hgR'⟩:∃g,w0.heap.size+1+1+1=g:=⟨_,rfl⟩;have hgR:gR<lo:=by omega
 have hwR:w0.heap.size≤gR:=by omega
 have hlz:lo≤wz.heap.size:=by have:=z1.out;omega
 rw [hgR'] at D3' ⊢
 refine Zg [.rd (.pointer (some ⟨w0.heap.size,0,none⟩)),.rd (.int .i64 k.p),.rd (.pointer (some ⟨w0.heap.size+1,0,none⟩)),.rd (.slice Ba a.sh.length da),.rd (.pointer (some ⟨w0.heap.size+1+1,0,none⟩)),.rd (.slice Bb b.sh.length db),.ch,.rd (.pointer (some ⟨w0.heap.size,0,none⟩)),.rd (.int .i64 k.p),.rd (.pointer (some ⟨w0.heap.size+1,1,none⟩)),.rd (.slice Ca a.mc.length fa),.rd (.pointer (some ⟨w0.heap.size+1+1,1,none⟩)),.rd (.slice Cb b.mc.length fb),.ch,.ch,.ch] (fun _=>False)
  [⟨[],fun _ w'=>wz.drew.grownBy w' none⟩,
   ⟨[24],fun l w'=>row1 lo a.sh.length (addS k.p a.sh b.sh) (l.getD 0 undef) w'∧wz.drew.grownBy w' none⟩,
   ⟨[24,31],fun l w'=>row2 lo a.sh.length a.mc.length (addS k.p a.sh b.sh) (addS k.p a.mc b.mc) (l.getD 0 undef) (l.getD 1 undef) w'∧wz.drew.grownBy w' none⟩,
   ⟨[32],fun l w'=>autF lo ⟨(addS k.p a.sh b.sh),(addS k.p a.mc b.mc)⟩ (l.getD 0 undef) w'∧wz.drew.grownBy w' none⟩,
   ⟨[],fun _ w'=>(∃A9 n9 c9 B9 k9 d9,autF lo ⟨(addS k.p a.sh b.sh),(addS k.p a.mc b.mc)⟩ (.agg #[.slice A9 n9 c9,.slice B9 k9 d9]) w'∧Blk w' gR 80 #[.slice A9 n9 c9,.slice B9 k9 d9])∧wz.heap.size≤w'.heap.size∧w0.grownBy w' none⟩]
  (by kernel_rfl) (by kernel_rfl) (by kernel_rfl) 4 (by kernel_rfl) (by simp only [flOk,and_true]) (gbR _ _) rfl ?_ ?_
 ·simp only [hopsK,hopK,Kd.next,and_true]
  refine ⟨?_, ?_, ?_, ?_, ?_, ?_, ?_, ?_, ?_, ?_, ?_, ?_, ?_, ?_, ?_, ?_⟩;rotate_left 6
  ·intro f w4 hG hI hd
   have hI:wz.drew.grownBy w4 none:=hI;have hg4:=gbT (gbD (gbR wz none)) hI;have hz4:=hg4.size
   (try simp at hd)
   (first | simp [hd] | simp)
   clear hd;go_wp2_with fail;refine (XC k.p Ba Bb a.sh.length b.sh.length da db a.sh b.sh w4 LE1.out EA1.out EB1.out (ISa'.out.grow hg4) (ISb'.out.grow hg4) LN1.out).mono ?_;rintro e w6 ⟨v6,rfl,o6,g6⟩;have O6:=zH (ZQ o6 (show lo≤w4.heap.size by omega));have G6:=zH (gbT hI g6);have Q6:=zH g6;clear o6 g6;go_wp2_with fail;exact ⟨_,rfl,⟨row1.of O6.out,G6.out⟩,⟨Chg.of Q6.out (by simp),by simp [keepsC]⟩⟩
  rotate_left 6
  ·intro f w4 hG hI hd
   obtain ⟨h1,hI⟩:=hI;have H1:Hid (row1 lo a.sh.length (addS k.p a.sh b.sh) (f 24) w4):=zH h1;have hg4:=gbT (gbD (gbR wz none)) hI;have hz4:=hg4.size;clear h1
   (try simp at hd)
   (first | simp [hd] | simp)
   clear hd;go_wp2_with fail;refine (XC k.p Ca Cb a.mc.length b.mc.length fa fb a.mc b.mc w4 LE2.out EA2.out EB2.out (IMa'.out.grow hg4) (IMb'.out.grow hg4) LN2.out).mono ?_;rintro e w6 ⟨v6,rfl,o6,g6⟩;have R6:=zH (row2.of H1.out g6 (show lo≤w4.heap.size by omega) o6);have G6:=zH (gbT hI g6);have Q6:=zH g6;clear o6 g6;go_wp2_with fail;exact ⟨_,rfl,⟨R6.out,G6.out⟩,⟨Chg.of Q6.out (by simp),by simp [keepsC]⟩⟩
  ·intro f w4 hG hI hd
   obtain ⟨h1,hI⟩:=hI;have h1:row2 lo a.sh.length a.mc.length (addS k.p a.sh b.sh) (addS k.p a.mc b.mc) (f 24) (f 31) w4:=h1;have HA:=h1.agg;obtain ⟨A1,c1,e1⟩:=h1.f1;obtain ⟨A2,c2,e2⟩:=h1.f2;rw [e1,e2] at HA;have HA:=zH HA;clear h1 hd;simp [puts,dsts,Act.put,e1,e2];go_wp2_with fail;exact ⟨_,rfl,⟨HA.out,hI⟩,⟨Chg.refl _ _,by simp [keepsC]⟩⟩
  ·intro f w4 hG hI hd
   obtain ⟨h1,hI⟩:=hI;have h1:autF lo ⟨(addS k.p a.sh b.sh),(addS k.p a.mc b.mc)⟩ (f 32) w4:=h1;obtain ⟨A9,n9,c9,B9,k9,d9,e9⟩:=h1.form;rw [e9] at h1;have hg4:=gbT (gbD (gbR wz none)) hI;have R4:=(D3'.out).grow hg4;have f0:=R4.frozen 0;have f1:=R4.frozen 1;have b0:=R4.cell 0;have b1:=R4.cell 1;simp at b0 b1;have RS:=zH (Zh R4 [.slice A9 n9 c9,.slice B9 k9 d9] rfl);have CH:=Zc gR [.slice A9 n9 c9,.slice B9 k9 d9] 0 w4;have AS:=zH (h1.chg CH hgR);have GS:=zH (Zv (gbT GW.out hg4) CH hwR);have ZS:=zH (Nat.le_trans hg4.size CH.size);clear R4 h1 hI CH
   (try simp at hd)
   simp [puts,dsts,Act.put,e9];go_wp2_with fail;exact ⟨rfl,.bool false,⟨A9,n9,c9,B9,k9,d9,AS.out,RS.out⟩,ZS.out,GS.out⟩
  all_goals
   intro f w4 hG hd;have hg4:=gbT (gbD (gbR wz none)) (chgF hG);have k0:=(D0'.out.grow hg4).cell 0;have k1:=(D1'.out.grow hg4).cell 0;have k2:=(D1'.out.grow hg4).cell 1;have k3:=(D2'.out.grow hg4).cell 0;have k4:=(D2'.out.grow hg4).cell 1;simp at k0 k1 k2 k3 k4
   (try simp at hd)
   (first | simp [hd] | simp)
   clear hd;go_wp2_with fail;exact ⟨rfl,rfl⟩
 intro f w9 hI hd;obtain ⟨⟨A9,n9,c9,B9,k9,d9,hAU,hBR⟩,_,hGZ⟩:=hI;simp only [puts,dsts,Act.put,zB,zC,zA,zD,zE];clear hd;go_wp2_with fail;refine Yo Tryz.results148 (by rfl) stAuth (cs:=#[.slice A9 n9 c9,.slice B9 k9 d9]) hBR (by rfl) (by rfl) ?_;exact ⟨_,rfl,by rw [HFO.out];exact autF.lo hAU (by omega),hGZ⟩
set_option maxHeartbeats 2000000 in
set_option maxRecDepth 100000 in
theorem Xq (k:KM) (a b:AuM) (kv av bv:Value) (w0:World) (h:AggR w0 (ckeys k) kv) (ha:AggR w0 (cauth a) av) (hb:AggR w0 (cauth b) bv) (wk:kwf k) (wa:awf a) (wb:awf b) :
  Calls Tryz.prog 136 #[kv,av,bv] w0 fun e w'=>∃v,e=.returned v∧autF w0.heap.size (Zk k a b) v w'∧w0.grownBy w' none:=by
 obtain ⟨A,c,rfl,hc,hm,hI⟩:=ZK h;obtain ⟨Ba,da,Ca,fa,rfl,_,_,_,_,hSa,hMa⟩:=ZC ha;obtain ⟨Bb,db,Cb,fb,rfl,_,_,_,_,hSb,hMb⟩:=ZC hb;obtain ⟨w1,hw1⟩:∃x:World,(((w0.alloc (.cells #[.int .i64 k.p,.slice A k.al.length c] 34)).alloc (.cells #[.slice Ba a.sh.length da,.slice Ca a.mc.length fa] 80)).alloc (.cells #[.slice Bb b.sh.length db,.slice Cb b.mc.length fb] 80)).alloc (.cells #[.slice none 0 0,.slice none 0 0] 80)=x:=⟨_,rfl⟩;have G1:Hid (w0.grownBy w1 none):=by rw [← hw1];exact gbA (gbA (gbA (gbA (gbR _ _) _) _) _) _
 have z1:Hid (w1.heap.size=w0.heap.size+4):=by rw [← hw1];exact zH (by simp)
 have D0:Hid (Blk w1 w0.heap.size 34 #[.int .i64 k.p,.slice A k.al.length c]):=by rw [← hw1];exact (((Blk.new w0 _ _).grow (gbA (gbR _ _) _)).grow (gbA (gbR _ _) _)).grow (gbA (gbR _ _) _)
 have D1:Hid (Blk w1 (w0.heap.size+1) 80 #[.slice Ba a.sh.length da,.slice Ca a.mc.length fa]):=by rw [← hw1];exact ((Blk.new' _ _ _ _ (by simp)).grow (gbA (gbR _ _) _)).grow (gbA (gbR _ _) _)
 have D2:Hid (Blk w1 (w0.heap.size+1+1) 80 #[.slice Bb b.sh.length db,.slice Cb b.mc.length fb]):=by rw [← hw1];exact (Blk.new' _ _ _ _ (by simp)).grow (gbA (gbR _ _) _)
 have D3:Hid (Blk w1 (w0.heap.size+1+1+1) 80 #[.slice none 0 0,.slice none 0 0]):=by rw [← hw1];exact Blk.new' _ _ _ _ (by simp)
 have HK:=zH (AggR.grow h G1.out);have HAa:=zH (AggR.grow ha G1.out);have HAb:=zH (AggR.grow hb G1.out);have ISa:=zH (hSa.grow G1.out);have IMa:=zH (hMa.grow G1.out);have ISb:=zH (hSb.grow G1.out);have IMb:=zH (hMb.grow G1.out);have WK:=zH wk;have WA:=zH wa;have WB:=zH wb;clear h ha hb hI hSa hMa hSb hMb wk wa wb;have HFO:Hid (Zk k a b=if formB k a&&formB k b then ⟨addS k.p a.sh b.sh,addS k.p a.mc b.mc⟩ else noA):=rfl
 go_enter Tryz.func136,Tryz.ntmps136
 have k0:=D0.out.cell 0;have k1:=D0.out.cell 1;have a0:=D1.out.cell 0;have a1:=D1.out.cell 1;have b0:=D2.out.cell 0;have b1:=D2.out.cell 1;simp at k0 k1 a0 a1 b0 b1;go_wp2_with fail;clear k0 k1 a0 a1 b0 b1 hw1;have HL2:=zH (cauths_lit2 HAa.out HAb.out);have HKL:=zH (AggR.grow HK.out (gbA (gbR w1 none) (.cells #[.slice Ba a.sh.length da,.slice Ca a.mc.length fa,.slice Bb b.sh.length db,.slice Cb b.mc.length fb] 80)))
 have HAL:Hid (([a,b].all (formA k)&&keysB k)=(formB k a&&formB k b)):=by
  unfold Hid formB;simp only [List.all_cons,List.all_nil,Bool.and_true]
  cases keysB k <;> simp
 refine (Yz k [a,b] _ _ 2 2 _ HKL.out HL2.out WK.out (by intro x hx;rcases List.mem_cons.1 hx with h | h;exact h ▸ WA.out;have h:x=b:=(by simpa using h);exact h ▸ WB.out) (by omega)).mono ?_;rintro e wz ⟨rfl,g2⟩;have gz:=gbT (gbA (gbR w1 none) (.cells #[.slice Ba a.sh.length da,.slice Ca a.mc.length fa,.slice Bb b.sh.length db,.slice Cb b.mc.length fb] 80)) g2;clear g2 HL2 HKL;rw [HAL.out]
 cases hfab:(formB k a&&formB k b)
 ·rw [hfab] at HFO
  have RS:=zH (Zh (D3.out.grow gz) [.slice none 0 0,.slice none 0 0] rfl);have CH:=zH (Zc (w0.heap.size+1+1+1) [.slice none 0 0,.slice none 0 0] 0 wz);have r0:=(D3.out.grow gz).cell 0;have r1:=(D3.out.grow gz).cell 1;have s0:=(D3.out.grow gz).frozen 0;have s1:=(D3.out.grow gz).frozen 1;simp at r0 r1;have GG:=zH (gbT G1.out gz);clear gz;go_wp2_with fail;refine Yo Tryz.results136 (by rfl) stAuth (cs:=#[.slice none 0 0,.slice none 0 0]) RS.out (by rfl) (by rfl) ?_;exact ⟨_,rfl,by rw [HFO.out];exact ⟨_,Xe _,by simp⟩,Zv GG.out CH.out (by omega)⟩
 obtain ⟨hfa,hfb⟩:=Bool.and_eq_true_iff.1 hfab;clear hfab;rw [hfa,hfb] at HFO;obtain ⟨_,la1,la2,ea1,ea2,_,ln1,ln5⟩:=ZN hfa;obtain ⟨_,lb1,lb2,eb1,eb2,_,_,_⟩:=ZN hfb;rw [Bool.and_self,if_pos rfl] at HFO;have D0':=zH (D0.out.grow gz);have D1':=zH (D1.out.grow gz);have D2':=zH (D2.out.grow gz);have D3':=zH (D3.out.grow gz);have GW:=zH (gbT G1.out gz);have ISa':=zH (ISa.out.grow gz);have IMa':=zH (IMa.out.grow gz);have ISb':=zH (ISb.out.grow gz);have IMb':=zH (IMb.out.grow gz);have LE1:Hid (b.sh.length=a.sh.length):=zH (by omega);have LE2:Hid (b.mc.length=a.mc.length):=zH (by omega);have LN1:Hid (a.sh.length≤1048576):=zH (by omega);have LN2:Hid (a.mc.length≤1048576):=zH (by omega);have EA1:=zH ea1;have EA2:=zH ea2;have EB1:=zH eb1;have EB2:=zH eb2;have zz:=gz.size;clear la1 la2 lb1 lb2 hfa hfb gz D0 D1 D2 D3 G1 ISa IMa ISb IMb HK HAa HAb WK WA WB ea1 ea2 eb1 eb2;go_wp2_with fail;obtain ⟨lo,hlo⟩:∃lo,w0.heap.size+4=lo:=⟨_,rfl⟩;obtain ⟨gR,hgR'⟩:∃g,w0.heap.size+1+1+1=g:=⟨_,rfl⟩;have hgR:gR<lo:=by omega
 have hwR:w0.heap.size≤gR:=by omega
 have hlz:lo≤wz.heap.size:=by have:=z1.out;omega
 rw [hgR'] at D3' ⊢
 refine Zg [.rd (.pointer (some ⟨w0.heap.size,0,none⟩)),.rd (.int .i64 k.p),.rd (.pointer (some ⟨w0.heap.size+1,0,none⟩)),.rd (.slice Ba a.sh.length da),.rd (.pointer (some ⟨w0.heap.size+1+1,0,none⟩)),.rd (.slice Bb b.sh.length db),.ch,.rd (.pointer (some ⟨w0.heap.size,0,none⟩)),.rd (.int .i64 k.p),.rd (.pointer (some ⟨w0.heap.size+1,1,none⟩)),.rd (.slice Ca a.mc.length fa),.rd (.pointer (some ⟨w0.heap.size+1+1,1,none⟩)),.rd (.slice Cb b.mc.length fb),.ch,.ch,.ch] (fun _=>False)
  [⟨[],fun _ w'=>wz.drew.grownBy w' none⟩,
   ⟨[20],fun l w'=>row1 lo a.sh.length (addS k.p a.sh b.sh) (l.getD 0 undef) w'∧wz.drew.grownBy w' none⟩,
   ⟨[20,27],fun l w'=>row2 lo a.sh.length a.mc.length (addS k.p a.sh b.sh) (addS k.p a.mc b.mc) (l.getD 0 undef) (l.getD 1 undef) w'∧wz.drew.grownBy w' none⟩,
   ⟨[28],fun l w'=>autF lo ⟨(addS k.p a.sh b.sh),(addS k.p a.mc b.mc)⟩ (l.getD 0 undef) w'∧wz.drew.grownBy w' none⟩,
   ⟨[],fun _ w'=>(∃A9 n9 c9 B9 k9 d9,autF lo ⟨(addS k.p a.sh b.sh),(addS k.p a.mc b.mc)⟩ (.agg #[.slice A9 n9 c9,.slice B9 k9 d9]) w'∧Blk w' gR 80 #[.slice A9 n9 c9,.slice B9 k9 d9])∧wz.heap.size≤w'.heap.size∧w0.grownBy w' none⟩]
  (by kernel_rfl) (by kernel_rfl) (by kernel_rfl) 4 (by kernel_rfl) (by simp only [flOk,and_true]) (gbR _ _) rfl ?_ ?_
 ·simp only [hopsK,hopK,Kd.next,and_true]
  refine ⟨?_, ?_, ?_, ?_, ?_, ?_, ?_, ?_, ?_, ?_, ?_, ?_, ?_, ?_, ?_, ?_⟩;rotate_left 6
  ·intro f w4 hG hI hd
   have hI:wz.drew.grownBy w4 none:=hI;have hg4:=gbT (gbD (gbR wz none)) hI;have hz4:=hg4.size
   (try simp at hd)
   (first | simp [hd] | simp)
   clear hd;go_wp2_with fail;refine (XD k.p Ba Bb a.sh.length b.sh.length da db a.sh b.sh w4 LE1.out EA1.out EB1.out (ISa'.out.grow hg4) (ISb'.out.grow hg4) LN1.out).mono ?_;rintro e w6 ⟨v6,rfl,o6,g6⟩;have O6:=zH (ZQ o6 (show lo≤w4.heap.size by omega));have G6:=zH (gbT hI g6);have Q6:=zH g6;clear o6 g6;go_wp2_with fail;exact ⟨_,rfl,⟨row1.of O6.out,G6.out⟩,⟨Chg.of Q6.out (by simp),by simp [keepsC]⟩⟩
  rotate_left 6
  ·intro f w4 hG hI hd
   obtain ⟨h1,hI⟩:=hI;have H1:Hid (row1 lo a.sh.length (addS k.p a.sh b.sh) (f 20) w4):=zH h1;have hg4:=gbT (gbD (gbR wz none)) hI;have hz4:=hg4.size;clear h1
   (try simp at hd)
   (first | simp [hd] | simp)
   clear hd;go_wp2_with fail;refine (XD k.p Ca Cb a.mc.length b.mc.length fa fb a.mc b.mc w4 LE2.out EA2.out EB2.out (IMa'.out.grow hg4) (IMb'.out.grow hg4) LN2.out).mono ?_;rintro e w6 ⟨v6,rfl,o6,g6⟩;have R6:=zH (row2.of H1.out g6 (show lo≤w4.heap.size by omega) o6);have G6:=zH (gbT hI g6);have Q6:=zH g6;clear o6 g6;go_wp2_with fail;exact ⟨_,rfl,⟨R6.out,G6.out⟩,⟨Chg.of Q6.out (by simp),by simp [keepsC]⟩⟩
  ·intro f w4 hG hI hd
   obtain ⟨h1,hI⟩:=hI;have h1:row2 lo a.sh.length a.mc.length (addS k.p a.sh b.sh) (addS k.p a.mc b.mc) (f 20) (f 27) w4:=h1;have HA:=h1.agg;obtain ⟨A1,c1,e1⟩:=h1.f1;obtain ⟨A2,c2,e2⟩:=h1.f2;rw [e1,e2] at HA;have HA:=zH HA;clear h1 hd;simp [puts,dsts,Act.put,e1,e2];go_wp2_with fail;exact ⟨_,rfl,⟨HA.out,hI⟩,⟨Chg.refl _ _,by simp [keepsC]⟩⟩
  ·intro f w4 hG hI hd
   obtain ⟨h1,hI⟩:=hI;have h1:autF lo ⟨(addS k.p a.sh b.sh),(addS k.p a.mc b.mc)⟩ (f 28) w4:=h1;obtain ⟨A9,n9,c9,B9,k9,d9,e9⟩:=h1.form;rw [e9] at h1;have hg4:=gbT (gbD (gbR wz none)) hI;have R4:=(D3'.out).grow hg4;have f0:=R4.frozen 0;have f1:=R4.frozen 1;have b0:=R4.cell 0;have b1:=R4.cell 1;simp at b0 b1;have RS:=zH (Zh R4 [.slice A9 n9 c9,.slice B9 k9 d9] rfl);have CH:=Zc gR [.slice A9 n9 c9,.slice B9 k9 d9] 0 w4;have AS:=zH (h1.chg CH hgR);have GS:=zH (Zv (gbT GW.out hg4) CH hwR);have ZS:=zH (Nat.le_trans hg4.size CH.size);clear R4 h1 hI CH
   (try simp at hd)
   simp [puts,dsts,Act.put,e9];go_wp2_with fail;exact ⟨rfl,.bool false,⟨A9,n9,c9,B9,k9,d9,AS.out,RS.out⟩,ZS.out,GS.out⟩
  all_goals
   intro f w4 hG hd;have hg4:=gbT (gbD (gbR wz none)) (chgF hG);have k0:=(D0'.out.grow hg4).cell 0;have k1:=(D1'.out.grow hg4).cell 0;have k2:=(D1'.out.grow hg4).cell 1;have k3:=(D2'.out.grow hg4).cell 0;have k4:=(D2'.out.grow hg4).cell 1;simp at k0 k1 k2 k3 k4
   (try simp at hd)
   (first | simp [hd] | simp)
   clear hd;go_wp2_with fail;exact ⟨rfl,rfl⟩
 intro f w9 hI hd;obtain ⟨⟨A9,n9,c9,B9,k9,d9,hAU,hBR⟩,_,hGZ⟩:=hI;simp only [puts,dsts,Act.put,zB,zC,zA,zD,zE];clear hd;go_wp2_with fail;refine Yo Tryz.results136 (by rfl) stAuth (cs:=#[.slice A9 n9 c9,.slice B9 k9 d9]) hBR (by rfl) (by rfl) ?_;exact ⟨_,rfl,by rw [HFO.out];exact autF.lo hAU (by omega),hGZ⟩
end Go.Proofs.YthaadgdeadbhkaaGreat
