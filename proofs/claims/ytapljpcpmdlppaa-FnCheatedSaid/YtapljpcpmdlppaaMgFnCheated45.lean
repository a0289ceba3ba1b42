/-
 FnCheated: the walk.
-/
import Derived.Test.YtapljpcpmdlppaaMgFnCheated44
namespace Go.Proofs.Ytapljpcpmdlppaa
open Go.RowKit
set_option linter.unusedVariables false
set_option linter.unusedSimpArgs false
theorem keys_two {P : Nat} (hf : fieldB (P : Int) = true) : keysB ⟨(P : Int),[1,1]⟩ = true:=by
 have:=(field_range hf).1
 unfold keysB
 simp only
 rw [elemsB_mk hf (by intro a ha; simp at ha; omega)]
 rfl
def rd11 (v : Value) (w : World) : Prop:=∃ A c,v = .slice A 2 c ∧ (cints [1,1]).rd w (.slice A 2 c)
theorem rd11_st : stable rd11:=fun v w w' ⟨A,c,h1,h2⟩ hg => ⟨A,c,h1,CS.grow _ h2 hg⟩
def key11 (P : Nat) (v : Value) (w : World) : Prop:=∃ A c,v = .agg #[.int .i64 P,.slice A 2 c] ∧ (cints [1,1]).rd w (.slice A 2 c)
theorem key11_st {P : Nat} : stable (key11 P):=fun v w w' ⟨A,c,h1,h2⟩ hg => ⟨A,c,h1,CS.grow _ h2 hg⟩
theorem rd11.eq {v : Value} {w : World} (h : rd11 v w) : v = .slice (s3A v) 2 (s3C v) ∧ (cints [1,1]).rd w (.slice (s3A v) 2 (s3C v)):=by
 obtain ⟨A,c,rfl,h⟩:=h
 exact ⟨rfl,h⟩
theorem key11.eq {P : Nat} {v : Value} {w : World} (h : key11 P v w) : v = .agg #[.int .i64 P,.slice (s3A (agC 1 v)) 2 (s3C (agC 1 v))] ∧ (cints [1,1]).rd w (.slice (s3A (agC 1 v)) 2 (s3C (agC 1 v))):=by
 obtain ⟨A,c,rfl,h⟩:=h
 exact ⟨rfl,h⟩
theorem key11.mk {P : Nat} {A : Option Addr} {c : Nat} {w : World} (h : (cints [1,1]).rd w (.slice A 2 c)) : key11 P (.agg #[.int .i64 P,.slice A 2 c]) w:=⟨A,c,rfl,h⟩
theorem rd11.mk {A : Option Addr} {c : Nat} {w : World} (h : (cints [1,1]).rd w (.slice A 2 c)) : rd11 (.slice A 2 c) w:=⟨A,c,rfl,h⟩
set_option maxHeartbeats 2000000 in
set_option maxRecDepth 100000 in
theorem FnCheated.walk (w : World) (A : Option Addr) (n c : Nat) (zs : List Int) (hz : IntsK .u8 w A n zs) (hm : n ≤ maxLen) :
  Calls Try.prog 20 #[.slice A n c] w fun e w' => e = .returned (.bool true) ∧ w.grownBy w' none:=by
 unfold maxLen at hm
 by_cases hbig : 1048576 < n
 ·have hd : decide (1048576 < n) = true:=by simp; omega
  go_enter Try.func20,Try.ntmps20
  go_wp2_with fail
  refine (big_c _ A n c (by omega)).mono ?_
  rintro e w1 ⟨rfl,rfl⟩
  go_wp2_with fail
  go_ret
  exact ⟨rfl,gbR _ _⟩
 ·have hd : decide (1048576 < n) = false:=by simp; omega
  have H:=Lib.hid (bytesIn hz (by omega))
  clear hz
  go_enter Try.func20,Try.ntmps20
  go_wp2_with fail
  refine (big_c _ A n c (by omega)).mono ?_
  rintro e w1 ⟨rfl,rfl⟩
  rw [hd]
  clear hd hbig hm
  go_wp2_with fail
  refine (DrawCheat_c _ A n c zs H.out).mono ?_
  rintro e wd ⟨A1,A2,I,R,n1,s1,n2,s2,ci,cr,mst,mou,ins,es,P,s,a,rfl,hok,hil,hel,hes,hl8,hcr,hou,hs,ha,hc,hi,hci,her,hg⟩
  obtain ⟨nr,hnr⟩ : ∃ x,es.length = x:=⟨_,rfl⟩
  rw [hnr] at hl8 hcr her ⊢
  have HNR:=Lib.hid hnr
  have OK:=Lib.hid hok
  have HIL:=Lib.hid hil
  have HEL:=Lib.hid hel
  have HES:=Lib.hid hes
  have HC:=Lib.hid hc
  have HI:=Lib.hid hi
  have HER:=Lib.hid her
  have G1:=Lib.hid hg
  have FL:=Lib.hid (show fieldB (P : Int) = true from hok.fld)
  obtain ⟨p2,p101⟩:=field_range FL.out
  have hst60:=hok.few
  clear hok hil hel hes hc hi her hg hnr
  obtain ⟨wu,hwu⟩ : ∃ x : World,(wd.alloc (.cells #[.int .i64 P,.slice A1 n1 s1,.slice A2 n2 s2] 30)).alloc (.cells #[.int .i64 s,.int .i64 a] 75) = x:=⟨_,rfl⟩
  have GU : Hid (wd.grownBy wu none):=by rw [← hwu]; exact Lib.hid (gbA (gbA (gbR _ _) _) _)
  have B4 : Hid (Blk wu wd.heap.size 30 #[.int .i64 P,.slice A1 n1 s1,.slice A2 n2 s2]):=by rw [← hwu]; exact Lib.hid ((Blk.new wd _ _).grow (gbA (gbR _ _) _))
  have B6 : Hid (Blk wu (wd.heap.size + 1) 75 #[.int .i64 s,.int .i64 a]):=by rw [← hwu]; exact Lib.hid (Blk.new' _ _ _ _ (by simp))
  have x0:=B4.out.cell 0
  have x1:=B4.out.cell 1
  have x2:=B4.out.cell 2
  have y0:=B6.out.cell 0
  have y1:=B6.out.cell 1
  simp only [List.getElem?_toArray,List.getElem?_cons_succ,List.getElem?_cons_zero] at x0 x1 x2 y0 y1
  go_wp2_with fail
  clear hwu x0 x1 x2 y0 y1
  have hE : Ints wu R nr es:=by
   obtain ⟨A',c',e',_,_,h9⟩:=cints_rd (CS.grow _ HER.out GU.out)
   injection e' with e1 e2 e3
   subst e1; subst e3
   rw [← e2] at h9
   exact h9
  have HE:=Lib.hid hE
  clear hE
  refine (implCountOutcomes_yes mst mou P s a I R ci nr cr ins es _ wu (HC.out.grow GU.out) (HI.out.grow GU.out) HE.out OK.out (by omega) HIL.out HEL.out HES.out hs (by omega) (by omega) hcr).mono ?_
  rintro e w3 ⟨gn,cn,rfl,hI3,g3⟩
  obtain ⟨c0,hc0⟩ : ∃ z,cntO ⟨(P : Int),mst,mou⟩ P s ins es P 0 = z:=⟨_,rfl⟩
  obtain ⟨c1,hc1⟩ : ∃ z,cntO ⟨(P : Int),mst,mou⟩ P s ins es P 1 = z:=⟨_,rfl⟩
  obtain ⟨c2,hc2⟩ : ∃ z,cntO ⟨(P : Int),mst,mou⟩ P s ins es P 2 = z:=⟨_,rfl⟩
  have hsum:=cnt_sum (m:=⟨(P : Int),mst,mou⟩) (P:=P) (s:=s) (ins:=ins) (es:=es) P
  unfold row3 at hI3
  rw [hc0,hc1,hc2] at hI3 hsum
  obtain ⟨b,o,e',hb,hcell⟩:=hI3.at_ (by omega)
  injection e' with e'
  injection e' with e1 e2 _
  subst e1; subst e2
  have n0:=hcell 0 (by omega)
  have n1':=hcell 1 (by omega)
  have n2':=hcell 2 (by omega)
  simp at n0 n1' n2'
  have N0:=Lib.hid n0
  have N1:=Lib.hid n1'
  have N2:=Lib.hid n2'
  have C4:=Lib.hid (B4.out.grow g3)
  have C6:=Lib.hid (B6.out.grow g3)
  have G3:=Lib.hid (gbT GU.out g3)
  have HE3:=Lib.hid (HE.out.grow g3)
  have HC0:=Lib.hid hc0
  have HC2:=Lib.hid hc2
  have x0:=C4.out.cell 0
  have x1:=C4.out.cell 1
  have x2:=C4.out.cell 2
  have y0:=C6.out.cell 0
  have y1:=C6.out.cell 1
  simp only [List.getElem?_toArray,List.getElem?_cons_succ,List.getElem?_cons_zero] at x0 x1 x2 y0 y1
  have X0:=Lib.hid x0
  have X1:=Lib.hid x1
  have X2:=Lib.hid x2
  have Y0:=Lib.hid y0
  have Y1:=Lib.hid y1
  have hs2 : (c0 : Int) + (c1 : Int) + (c2 : Int) = (P : Int):=by omega
  clear g3 hI3 hcell n0 n1' n2' hc0 hc1 hc2 x0 x1 x2 y0 y1 B4 B6 HE hb
  go_wp2_with fail
  refine region_grow [isV (.slice (some ⟨gn,0,none⟩) 3 cn),isV (.int .i64 3),isV (.bool false),isV (.bool false),isV (.slice (some ⟨gn,0,none⟩) 3 cn),isV (.pointer (some ⟨gn,0,none⟩)),isV (.int .i64 c0),isV (.slice (some ⟨gn,0,none⟩) 3 cn),isV (.pointer (some ⟨gn,1,none⟩)),isV (.int .i64 c1),isV (.int .i64 ((c0 : Int) + (c1 : Int))),isV (.slice (some ⟨gn,0,none⟩) 3 cn),isV (.pointer (some ⟨gn,2,none⟩)),isV (.int .i64 c2),isV (.int .i64 P),isV (.pointer (some ⟨wd.heap.size,0,none⟩)),isV (.int .i64 P),isV (.bool false),isV (.bool false)] (by kernel_rfl) (by kernel_rfl) (by kernel_rfl) (by simp [stables,isV_st]) ?_ ?_
  ·simp only [hops,and_true]
   refine ⟨?_, ?_, ?_, ?_, ?_, ?_, ?_, ?_, ?_, ?_, ?_, ?_, ?_, ?_, ?_, ?_, ?_, ?_, ?_⟩
   ·intro f w1 hG hd
    have hg4:=gbT (gbD (gbR w3 none)) hG
    simp [deps,tAt,isV] at hd
    first | simp [puts,dsts,Act.put,hd] | simp [puts,dsts,Act.put]
    clear hd
    go_wp2_with fail
    exact ⟨_,rfl,by with_reducible exact gbR _ _,by simp [tAt,isV]⟩
   ·intro f w1 hG hd
    have hg4:=gbT (gbD (gbR w3 none)) hG
    simp [deps,tAt,isV] at hd
    first | simp [puts,dsts,Act.put,hd] | simp [puts,dsts,Act.put]
    clear hd
    go_wp2_with fail
    exact ⟨_,rfl,by with_reducible exact gbR _ _,by simp [tAt,isV]⟩
   ·intro f w1 hG hd
    have hg4:=gbT (gbD (gbR w3 none)) hG
    simp [deps,tAt,isV] at hd
    first | simp [puts,dsts,Act.put,hd] | simp [puts,dsts,Act.put]
    clear hd
    go_wp2_with fail
    exact ⟨_,rfl,by with_reducible exact gbR _ _,by simp [tAt,isV]⟩
   ·intro f w1 hG hd
    have hg4:=gbT (gbD (gbR w3 none)) hG
    simp [deps,tAt,isV] at hd
    first | simp [puts,dsts,Act.put,hd] | simp [puts,dsts,Act.put]
    clear hd
    go_wp2_with fail
    exact ⟨_,rfl,by with_reducible exact gbR _ _,by simp [tAt,isV]⟩
   ·intro f w1 hG hd
    have hg4:=gbT (gbD (gbR w3 none)) hG
    simp [deps,tAt,isV] at hd
    first | simp [puts,dsts,Act.put,hd] | simp [puts,dsts,Act.put]
    clear hd
    go_wp2_with fail
    exact ⟨_,rfl,by with_reducible exact gbR _ _,by simp [tAt,isV]⟩
   ·intro f w1 hG hd
    have hg4:=gbT (gbD (gbR w3 none)) hG
    simp [deps,tAt,isV] at hd
    first | simp [puts,dsts,Act.put,hd] | simp [puts,dsts,Act.put]
    clear hd
    go_wp2_with fail
    exact ⟨_,rfl,by with_reducible exact gbR _ _,by simp [tAt,isV]⟩
   ·intro f w1 hG hd
    have hg4:=gbT (gbD (gbR w3 none)) hG
    have k1:=gbk hg4 (N0.out)
    simp [deps,tAt,isV] at hd
    first | simp [puts,dsts,Act.put,hd] | simp [puts,dsts,Act.put]
    clear hd
    go_wp2_with fail
    exact ⟨_,rfl,by with_reducible exact gbR _ _,by simp [tAt,isV]⟩
   ·intro f w1 hG hd
    have hg4:=gbT (gbD (gbR w3 none)) hG
    simp [deps,tAt,isV] at hd
    first | simp [puts,dsts,Act.put,hd] | simp [puts,dsts,Act.put]
    clear hd
    go_wp2_with fail
    exact ⟨_,rfl,by with_reducible exact gbR _ _,by simp [tAt,isV]⟩
   ·intro f w1 hG hd
    have hg4:=gbT (gbD (gbR w3 none)) hG
    simp [deps,tAt,isV] at hd
    first | simp [puts,dsts,Act.put,hd] | simp [puts,dsts,Act.put]
    clear hd
    go_wp2_with fail
    exact ⟨_,rfl,by with_reducible exact gbR _ _,by simp [tAt,isV]⟩
   ·intro f w1 hG hd
    have hg4:=gbT (gbD (gbR w3 none)) hG
    have k2:=gbk hg4 (N1.out)
    simp [deps,tAt,isV] at hd
    first | simp [puts,dsts,Act.put,hd] | simp [puts,dsts,Act.put]
    clear hd
    go_wp2_with fail
    exact ⟨_,rfl,by with_reducible exact gbR _ _,by simp [tAt,isV]⟩
   ·intro f w1 hG hd
    have hg4:=gbT (gbD (gbR w3 none)) hG
    simp [deps,tAt,isV] at hd
    first | simp [puts,dsts,Act.put,hd] | simp [puts,dsts,Act.put]
    clear hd
    go_wp2_with fail
    exact ⟨_,rfl,by with_reducible exact gbR _ _,by simp [tAt,isV]⟩
   ·intro f w1 hG hd
    have hg4:=gbT (gbD (gbR w3 none)) hG
    simp [deps,tAt,isV] at hd
    first | simp [puts,dsts,Act.put,hd] | simp [puts,dsts,Act.put]
    clear hd
    go_wp2_with fail
    exact ⟨_,rfl,by with_reducible exact gbR _ _,by simp [tAt,isV]⟩
   ·intro f w1 hG hd
    have hg4:=gbT (gbD (gbR w3 none)) hG
    simp [deps,tAt,isV] at hd
    first | simp [puts,dsts,Act.put,hd] | simp [puts,dsts,Act.put]
    clear hd
    go_wp2_with fail
    exact ⟨_,rfl,by with_reducible exact gbR _ _,by simp [tAt,isV]⟩
   ·intro f w1 hG hd
    have hg4:=gbT (gbD (gbR w3 none)) hG
    have k3:=gbk hg4 (N2.out)
    simp [deps,tAt,isV] at hd
    first | simp [puts,dsts,Act.put,hd] | simp [puts,dsts,Act.put]
    clear hd
    go_wp2_with fail
    exact ⟨_,rfl,by with_reducible exact gbR _ _,by simp [tAt,isV]⟩
   ·intro f w1 hG hd
    have hg4:=gbT (gbD (gbR w3 none)) hG
    simp [deps,tAt,isV] at hd
    first | simp [puts,dsts,Act.put,hd] | simp [puts,dsts,Act.put]
    clear hd
    go_wp2_with fail
    exact ⟨_,rfl,by with_reducible exact gbR _ _,by simp [tAt,isV]⟩
   ·intro f w1 hG hd
    have hg4:=gbT (gbD (gbR w3 none)) hG
    simp [deps,tAt,isV] at hd
    first | simp [puts,dsts,Act.put,hd] | simp [puts,dsts,Act.put]
    clear hd
    go_wp2_with fail
    exact ⟨_,rfl,by with_reducible exact gbR _ _,by simp [tAt,isV]⟩
   ·intro f w1 hG hd
    have hg4:=gbT (gbD (gbR w3 none)) hG
    have k0:=gbk hg4 (X0.out)
    simp [deps,tAt,isV] at hd
    first | simp [puts,dsts,Act.put,hd] | simp [puts,dsts,Act.put]
    clear hd
    go_wp2_with fail
    exact ⟨_,rfl,by with_reducible exact gbR _ _,by simp [tAt,isV]⟩
   ·intro f w1 hG hd
    have hg4:=gbT (gbD (gbR w3 none)) hG
    simp [deps,tAt,isV] at hd
    first | simp [puts,dsts,Act.put,hd] | simp [puts,dsts,Act.put]
    clear hd
    go_wp2_with fail
    exact ⟨_,rfl,by with_reducible exact gbR _ _,by simp [tAt,isV]⟩
   ·intro f w1 hG hd
    have hg4:=gbT (gbD (gbR w3 none)) hG
    simp [deps,tAt,isV] at hd
    first | simp [puts,dsts,Act.put,hd] | simp [puts,dsts,Act.put]
    clear hd
    go_wp2_with fail
    exact ⟨_,rfl,by with_reducible exact gbR _ _,by simp [tAt,isV]⟩
  intro f w5 hG hd
  simp [knows,tAt,isV] at hd
  obtain ⟨h0_,h1_,h2_,h3_,h4_,h5_,h6_,h7_,h8_,h9_,h10_,h11_,h12_,h13_,h14_,h15_,h16_,h17_,h18_⟩:=hd
  simp only [puts,dsts,Act.put,h0_,h1_,h2_,h3_,h4_,h5_,h6_,h7_,h8_,h9_,h10_,h11_,h12_,h13_,h14_,h15_,h16_,h17_,h18_,List.filterMap_cons,List.filterMap_nil,List.setIfInBounds_toArray,List.set_cons_zero,List.set_cons_succ]
  clear h0_ h1_ h2_ h3_ h4_ h5_ h6_ h7_ h8_ h9_ h10_ h11_ h12_ h13_ h14_ h15_ h16_ h17_ h18_
  have g5:=gbT (gbD (gbR w3 none)) hG
  clear hG
  have x0:=gbk g5 X0.out
  have x1:=gbk g5 X1.out
  have x2:=gbk g5 X2.out
  have Z0:=Lib.hid x0
  have Z1:=Lib.hid x1
  have Z2:=Lib.hid x2
  have V0:=Lib.hid (gbk g5 Y0.out)
  have V1:=Lib.hid (gbk g5 Y1.out)
  have M0:=Lib.hid (gbk g5 N0.out)
  have M2:=Lib.hid (gbk g5 N2.out)
  have G5:=Lib.hid (gbT G3.out g5)
  have HE5:=Lib.hid (HE3.out.grow g5)
  have HR5:=Lib.hid (CS.grow _ HER.out G5.out)
  clear g5 X0 X1 X2 Y0 Y1 N0 N1 N2 G3 HE3 C4 C6
  go_wp2_with fail
  clear x0 x1 x2
  refine (implUsedErrors_c ⟨(P : Int),mst,mou⟩ es _ _ w5 (HC.out.grow G5.out) HR5.out (Nat.le_trans hst60 (by omega)) (by rw [HNR.out]; omega)).mono ?_
  rintro e w6 ⟨V6,rfl,o6,g6⟩
  obtain ⟨us,hus⟩ : ∃ l,usedE ⟨(P : Int),mst,mou⟩ es = l:=⟨_,rfl⟩
  have hul : us.length ≤ 8:=by rw [← hus]; exact Nat.le_trans (usedE_len _ _) (by rw [HNR.out]; exact hl8)
  rw [hus] at o6
  have HUS:=Lib.hid hus
  obtain ⟨V7,c7,rfl,_,_⟩:=own_form o6
  have I6:=Lib.hid (show Ints w6 V7 us.length us from Rd.ofOwn o6)
  have g6':=Lib.hid g6
  clear o6 g6 hus
  go_wp2_with fail
  refine (implAllZero_c V7 us.length c7 us w6 I6.out (by omega)).mono ?_
  rintro e w7 ⟨rfl,rfl⟩
  have Z0':=Lib.hid (gbk g6'.out Z0.out)
  have Z1':=Lib.hid (gbk g6'.out Z1.out)
  have Z2':=Lib.hid (gbk g6'.out Z2.out)
  have V0':=Lib.hid (gbk g6'.out V0.out)
  have V1':=Lib.hid (gbk g6'.out V1.out)
  have M0':=Lib.hid (gbk g6'.out M0.out)
  have M2':=Lib.hid (gbk g6'.out M2.out)
  have G6:=Lib.hid (gbT G5.out g6'.out)
  have HE6:=Lib.hid (HE5.out.grow g6'.out)
  clear Z0 Z1 Z2 V0 V1 M0 M2 g6' HE5 G5 HR5
  cases hall : us.all (· == 0)
  ·have hle : c0 + c2 ≤ 1:=by
    have:=cnt_wrong (s:=s) OK.out rfl HIL.out HEL.out HES.out (by rw [HUS.out]; exact hall) P (Nat.le_refl _)
    rw [HC0.out,HC2.out,if_neg (by omega)] at this
    exact this
   have hle' : (c0 : Int) + (c2 : Int) ≤ 1:=by omega
   clear hall
   go_wp2_with fail
   refine region_grow [isV (.slice (some ⟨gn,0,none⟩) 3 cn),isV (.pointer (some ⟨gn,0,none⟩)),isV (.int .i64 c0),isV (.slice (some ⟨gn,0,none⟩) 3 cn),isV (.pointer (some ⟨gn,2,none⟩)),isV (.int .i64 c2),isV (.int .i64 ((c0 : Int) + (c2 : Int))),isV (.bool true),isV (.bool true)] (by kernel_rfl) (by kernel_rfl) (by kernel_rfl) (by simp [stables,isV_st]) ?_ ?_
   ·simp only [hops,and_true]
    refine ⟨?_, ?_, ?_, ?_, ?_, ?_, ?_, ?_, ?_⟩
    ·intro f w1 hG hd
     have hg4:=gbT (gbD (gbR w6 none)) hG
     simp [deps,tAt,isV] at hd
     first | simp [puts,dsts,Act.put,hd] | simp [puts,dsts,Act.put]
     clear hd
     go_wp2_with fail
     exact ⟨_,rfl,by with_reducible exact gbR _ _,by simp [tAt,isV]⟩
    ·intro f w1 hG hd
     have hg4:=gbT (gbD (gbR w6 none)) hG
     simp [deps,tAt,isV] at hd
     first | simp [puts,dsts,Act.put,hd] | simp [puts,dsts,Act.put]
     clear hd
     go_wp2_with fail
     exact ⟨_,rfl,by with_reducible exact gbR _ _,by simp [tAt,isV]⟩
    ·intro f w1 hG hd
     have hg4:=gbT (gbD (gbR w6 none)) hG
     have k0:=gbk hg4 (M0'.out)
     simp [deps,tAt,isV] at hd
     first | simp [puts,dsts,Act.put,hd] | simp [puts,dsts,Act.put]
     clear hd
     go_wp2_with fail
     exact ⟨_,rfl,by with_reducible exact gbR _ _,by simp [tAt,isV]⟩
    ·intro f w1 hG hd
     have hg4:=gbT (gbD (gbR w6 none)) hG
     simp [deps,tAt,isV] at hd
     first | simp [puts,dsts,Act.put,hd] | simp [puts,dsts,Act.put]
     clear hd
     go_wp2_with fail
     exact ⟨_,rfl,by with_reducible exact gbR _ _,by simp [tAt,isV]⟩
    ·intro f w1 hG hd
     have hg4:=gbT (gbD (gbR w6 none)) hG
     simp [deps,tAt,isV] at hd
     first | simp [puts,dsts,Act.put,hd] | simp [puts,dsts,Act.put]
     clear hd
     go_wp2_with fail
     exact ⟨_,rfl,by with_reducible exact gbR _ _,by simp [tAt,isV]⟩
    ·intro f w1 hG hd
     have hg4:=gbT (gbD (gbR w6 none)) hG
     have k1:=gbk hg4 (M2'.out)
     simp [deps,tAt,isV] at hd
     first | simp [puts,dsts,Act.put,hd] | simp [puts,dsts,Act.put]
     clear hd
     go_wp2_with fail
     exact ⟨_,rfl,by with_reducible exact gbR _ _,by simp [tAt,isV]⟩
    ·intro f w1 hG hd
     have hg4:=gbT (gbD (gbR w6 none)) hG
     simp [deps,tAt,isV] at hd
     first | simp [puts,dsts,Act.put,hd] | simp [puts,dsts,Act.put]
     clear hd
     go_wp2_with fail
     exact ⟨_,rfl,by with_reducible exact gbR _ _,by simp [tAt,isV]⟩
    ·intro f w1 hG hd
     have hg4:=gbT (gbD (gbR w6 none)) hG
     simp [deps,tAt,isV] at hd
     first | simp [puts,dsts,Act.put,hd] | simp [puts,dsts,Act.put]
     clear hd
     go_wp2_with fail
     exact ⟨_,rfl,by with_reducible exact gbR _ _,by simp [tAt,isV]⟩
    ·intro f w1 hG hd
     have hg4:=gbT (gbD (gbR w6 none)) hG
     simp [deps,tAt,isV] at hd
     first | simp [puts,dsts,Act.put,hd] | simp [puts,dsts,Act.put]
     clear hd
     go_wp2_with fail
     exact ⟨_,rfl,by with_reducible exact gbR _ _,by simp [tAt,isV]⟩
   intro f w8 hG hd
   simp [knows,tAt,isV] at hd
   obtain ⟨h0_,h1_,h2_,h3_,h4_,h5_,h6_,h7_,h8_⟩:=hd
   simp only [puts,dsts,Act.put,h0_,h1_,h2_,h3_,h4_,h5_,h6_,h7_,h8_,List.filterMap_cons,List.filterMap_nil,List.setIfInBounds_toArray,List.set_cons_zero,List.set_cons_succ]
   clear h0_ h1_ h2_ h3_ h4_ h5_ h6_ h7_ h8_
   have g8:=gbT (gbD (gbR w6 none)) hG
   clear hG
   have G8:=Lib.hid (gbT G1.out (gbT G6.out g8))
   clear g8
   go_wp2_with fail
   go_ret
   exact ⟨rfl,G8.out⟩
  ·have hc0P : c0 = P:=by
    have:=cnt_right (s:=s) OK.out rfl HIL.out HEL.out HES.out (by rw [HUS.out]; exact hall) P (Nat.le_refl _)
    rw [HC0.out] at this
    exact this
   rw [hc0P] at M0'
   have HALL:=Lib.hid (show (usedE ⟨(P : Int),mst,mou⟩ es).all (· == 0) = true by rw [HUS.out]; exact hall)
   clear hall hc0P hs2 hsum
   go_wp2_with fail
   have HFT:=Lib.hid (show Fit ⟨(P : Int),[1,1]⟩ ⟨(P : Int),mst,mou⟩ P ins from ⟨keys_two FL.out,OK.out,rfl,rfl,HIL.out,HEL.out⟩)
   refine region_grow [isV (.slice (some ⟨gn,0,none⟩) 3 cn),isV (.pointer (some ⟨gn,0,none⟩)),isV (.int .i64 P),isV (.pointer (some ⟨wd.heap.size,0,none⟩)),isV (.int .i64 P),isV (.bool true),isV (.bool true),isV (.pointer (some ⟨wd.heap.size,0,none⟩)),isV (.int .i64 P),rd11,key11 P,isV (.agg #[.int .i64 P,.slice A1 n1 s1,.slice A2 n2 s2]),isV (.slice I 60 ci),isV (.agg #[.int .i64 s,.int .i64 a]),isV (.slice R nr cr),isV (.int .i64 0),isV (.bool true),isV (.bool true),isV (.bool true)] (by kernel_rfl) (by kernel_rfl) (by kernel_rfl) (sT_cons (isV_st _) (sT_cons (isV_st _) (sT_cons (isV_st _) (sT_cons (isV_st _) (sT_cons (isV_st _) (sT_cons (isV_st _) (sT_cons (isV_st _) (sT_cons (isV_st _) (sT_cons (isV_st _) (sT_cons (rd11_st) (sT_cons (key11_st) (sT_cons (isV_st _) (sT_cons (isV_st _) (sT_cons (isV_st _) (sT_cons (isV_st _) (sT_cons (isV_st _) (sT_cons (isV_st _) (sT_cons (isV_st _) (sT_cons (isV_st _) sT_nil))))))))))))))))))) ?_ ?_
   ·simp only [hops,and_true]
    refine ⟨?_, ?_, ?_, ?_, ?_, ?_, ?_, ?_, ?_, ?_, ?_, ?_, ?_, ?_, ?_, ?_, ?_, ?_, ?_⟩
    ·intro f w1 hG hd
     have hg4:=gbT (gbD (gbR w6 none)) hG
     simp [deps,tAt,isV] at hd
     first | simp [puts,dsts,Act.put,hd] | simp [puts,dsts,Act.put]
     clear hd
     go_wp2_with fail
     exact ⟨_,rfl,by with_reducible exact gbR _ _,by simp [tAt,isV]⟩
    ·intro f w1 hG hd
     have hg4:=gbT (gbD (gbR w6 none)) hG
     simp [deps,tAt,isV] at hd
     first | simp [puts,dsts,Act.put,hd] | simp [puts,dsts,Act.put]
     clear hd
     go_wp2_with fail
     exact ⟨_,rfl,by with_reducible exact gbR _ _,by simp [tAt,isV]⟩
    ·intro f w1 hG hd
     have hg4:=gbT (gbD (gbR w6 none)) hG
     have k0:=gbk hg4 (M0'.out)
     simp [deps,tAt,isV] at hd
     first | simp [puts,dsts,Act.put,hd] | simp [puts,dsts,Act.put]
     clear hd
     go_wp2_with fail
     exact ⟨_,rfl,by with_reducible exact gbR _ _,by simp [tAt,isV]⟩
    ·intro f w1 hG hd
     have hg4:=gbT (gbD (gbR w6 none)) hG
     simp [deps,tAt,isV] at hd
     first | simp [puts,dsts,Act.put,hd] | simp [puts,dsts,Act.put]
     clear hd
     go_wp2_with fail
     exact ⟨_,rfl,by with_reducible exact gbR _ _,by simp [tAt,isV]⟩
    ·intro f w1 hG hd
     have hg4:=gbT (gbD (gbR w6 none)) hG
     have k1:=gbk hg4 (Z0'.out)
     simp [deps,tAt,isV] at hd
     first | simp [puts,dsts,Act.put,hd] | simp [puts,dsts,Act.put]
     clear hd
     go_wp2_with fail
     exact ⟨_,rfl,by with_reducible exact gbR _ _,by simp [tAt,isV]⟩
    ·intro f w1 hG hd
     have hg4:=gbT (gbD (gbR w6 none)) hG
     simp [deps,tAt,isV] at hd
     first | simp [puts,dsts,Act.put,hd] | simp [puts,dsts,Act.put]
     clear hd
     go_wp2_with fail
     exact ⟨_,rfl,by with_reducible exact gbR _ _,by simp [tAt,isV]⟩
    ·intro f w1 hG hd
     have hg4:=gbT (gbD (gbR w6 none)) hG
     simp [deps,tAt,isV] at hd
     first | simp [puts,dsts,Act.put,hd] | simp [puts,dsts,Act.put]
     clear hd
     go_wp2_with fail
     exact ⟨_,rfl,by with_reducible exact gbR _ _,by simp [tAt,isV]⟩
    ·intro f w1 hG hd
     have hg4:=gbT (gbD (gbR w6 none)) hG
     simp [deps,tAt,isV] at hd
     first | simp [puts,dsts,Act.put,hd] | simp [puts,dsts,Act.put]
     clear hd
     go_wp2_with fail
     exact ⟨_,rfl,by with_reducible exact gbR _ _,by simp [tAt,isV]⟩
    ·intro f w1 hG hd
     have hg4:=gbT (gbD (gbR w6 none)) hG
     have k1:=gbk hg4 (Z0'.out)
     simp [deps,tAt,isV] at hd
     first | simp [puts,dsts,Act.put,hd] | simp [puts,dsts,Act.put]
     clear hd
     go_wp2_with fail
     exact ⟨_,rfl,by with_reducible exact gbR _ _,by simp [tAt,isV]⟩
    ·intro f w1 hG hd
     have hg4:=gbT (gbD (gbR w6 none)) hG
     simp [deps,tAt,isV] at hd
     simp [puts,dsts,Act.put,hd]
     clear hd
     go_wp2_with fail
     exact ⟨_,rfl,gbA (gbR _ _) _,rd11.mk (CS.toRd _ (cints_own (World.ownsRow_lit (base:=0) w1 #[.int .i64 1,.int .i64 1] 2 (Nat.zero_le _) (by unfold maxLen; omega) rfl)))⟩
    ·intro f w1 hG hd
     have hg4:=gbT (gbD (gbR w6 none)) hG
     simp [deps,tAt,isV] at hd
     have e53:=hd.1
     have e51:=hd.2.2
     have h54:=Lib.hid hd.2.1.eq.2
     have e54:=hd.2.1.eq.1
     clear hd
     generalize s3A (f 54) = A' at e54 h54
     generalize s3C (f 54) = c' at e54 h54
     simp [puts,dsts,Act.put,e53,e54,e51]
     clear e53 e54 e51
     go_wp2_with fail
     exact ⟨_,rfl,gbR _ _,key11.mk h54.out⟩
    ·intro f w1 hG hd
     have hg4:=gbT (gbD (gbR w6 none)) hG
     have k1:=gbk hg4 (Z0'.out)
     have k2:=gbk hg4 (Z1'.out)
     have k3:=gbk hg4 (Z2'.out)
     simp [deps,tAt,isV] at hd
     first | simp [puts,dsts,Act.put,hd] | simp [puts,dsts,Act.put]
     clear hd
     go_wp2_with fail
     exact ⟨_,rfl,by with_reducible exact gbR _ _,by simp [tAt,isV]⟩
    ·intro f w1 hG hd
     have hg4:=gbT (gbD (gbR w6 none)) hG
     simp [deps,tAt,isV] at hd
     first | simp [puts,dsts,Act.put,hd] | simp [puts,dsts,Act.put]
     clear hd
     go_wp2_with fail
     exact ⟨_,rfl,by with_reducible exact gbR _ _,by simp [tAt,isV]⟩
    ·intro f w1 hG hd
     have hg4:=gbT (gbD (gbR w6 none)) hG
     have k4:=gbk hg4 (V0'.out)
     have k5:=gbk hg4 (V1'.out)
     simp [deps,tAt,isV] at hd
     first | simp [puts,dsts,Act.put,hd] | simp [puts,dsts,Act.put]
     clear hd
     go_wp2_with fail
     exact ⟨_,rfl,by with_reducible exact gbR _ _,by simp [tAt,isV]⟩
    ·intro f w1 hG hd
     have hg4:=gbT (gbD (gbR w6 none)) hG
     simp [deps,tAt,isV] at hd
     first | simp [puts,dsts,Act.put,hd] | simp [puts,dsts,Act.put]
     clear hd
     go_wp2_with fail
     exact ⟨_,rfl,by with_reducible exact gbR _ _,by simp [tAt,isV]⟩
    ·intro f w1 hG hd
     have hg4:=gbT (gbD (gbR w6 none)) hG
     simp [deps,tAt,isV] at hd
     have e51:=hd.2.2.2.2.2
     have e56:=hd.2.1
     have e57:=hd.2.2.1
     have e58:=hd.2.2.2.1
     have e59:=hd.2.2.2.2.1
     have h55:=Lib.hid hd.1.eq.2
     have e55:=hd.1.eq.1
     clear hd
     generalize s3A (agC 1 (f 55)) = A' at e55 h55
     generalize s3C (agC 1 (f 55)) = c' at e55 h55
     simp [puts,dsts,Act.put,e55,e56,e57,e58,e59,e51]
     clear e55 e56 e57 e58 e59 e51
     go_wp2_with fail
     refine (implOutcomeOf_yes ⟨(P : Int),[1,1]⟩ ⟨(P : Int),mst,mou⟩ P s a I R ci nr cr ins es _ _ w1 (ckeys_mk (m:=⟨(P : Int),[1,1]⟩) h55.out) (HC.out.grow (gbT G6.out hg4)) (HI.out.grow (gbT G6.out hg4)) (HE6.out.grow hg4) (kwf_of HFT.out.kb) (amwf_of OK.out hou) HFT.out HES.out hs (by omega) (by omega) hcr).mono ?_
     rintro e' w9 ⟨rfl,hw⟩
     rw [oc_right HFT.out HES.out HALL.out]
     have HW:=Lib.hid hw
     clear hw
     go_wp2_with fail
     exact ⟨_,rfl,HW.out,rfl⟩
    ·intro f w1 hG hd
     have hg4:=gbT (gbD (gbR w6 none)) hG
     simp [deps,tAt,isV] at hd
     first | simp [puts,dsts,Act.put,hd] | simp [puts,dsts,Act.put]
     clear hd
     go_wp2_with fail
     exact ⟨_,rfl,by with_reducible exact gbR _ _,by simp [tAt,isV]⟩
    ·intro f w1 hG hd
     have hg4:=gbT (gbD (gbR w6 none)) hG
     simp [deps,tAt,isV] at hd
     first | simp [puts,dsts,Act.put,hd] | simp [puts,dsts,Act.put]
     clear hd
     go_wp2_with fail
     exact ⟨_,rfl,by with_reducible exact gbR _ _,by simp [tAt,isV]⟩
    ·intro f w1 hG hd
     have hg4:=gbT (gbD (gbR w6 none)) hG
     simp [deps,tAt,isV] at hd
     first | simp [puts,dsts,Act.put,hd] | simp [puts,dsts,Act.put]
     clear hd
     go_wp2_with fail
     exact ⟨_,rfl,by with_reducible exact gbR _ _,by simp [tAt,isV]⟩
   intro f w8 hG hd
   simp [knows,tAt,isV] at hd
   obtain ⟨h0_,h1_,h2_,h3_,h4_,h5_,h6_,h7_,h8_,h9_,h10_,h11_,h12_,h13_,h14_,h15_,h16_,h17_,h18_⟩:=hd
   simp only [puts,dsts,Act.put,h0_,h1_,h2_,h3_,h4_,h5_,h6_,h7_,h8_,h9_,h10_,h11_,h12_,h13_,h14_,h15_,h16_,h17_,h18_,List.filterMap_cons,List.filterMap_nil,List.setIfInBounds_toArray,List.set_cons_zero,List.set_cons_succ]
   clear h0_ h1_ h2_ h3_ h4_ h5_ h6_ h7_ h8_ h9_ h10_ h11_ h12_ h13_ h14_ h15_ h16_ h17_ h18_
   have g8:=gbT (gbD (gbR w6 none)) hG
   clear hG
   have G8:=Lib.hid (gbT G1.out (gbT G6.out g8))
   clear g8
   go_wp2_with fail
   go_ret
   exact ⟨rfl,G8.out⟩
end Go.Proofs.Ytapljpcpmdlppaa
