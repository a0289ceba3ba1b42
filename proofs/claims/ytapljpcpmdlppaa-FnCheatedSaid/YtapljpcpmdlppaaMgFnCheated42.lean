/-
 sameInts: the laws' own comparison of lists of numbers.
-/
import Derived.Test.YtapljpcpmdlppaaMgFnCheated14
import Derived.Test.YtapljpcpmdlppaaMgFnCheated12
namespace Go.Proofs.Ytapljpcpmdlppaa
open Go.RowKit
set_option linter.unusedVariables false
set_option linter.unusedSimpArgs false
set_option maxHeartbeats 400000 in
theorem sameInts_c (A B : Option Addr) (n m c d : Nat) (xs ys : List Int) (w : World) (hx : Ints w A n xs) (hy : Ints w B m ys) (hn : n ≤ 4611686018427387903) (hm : m ≤ 4611686018427387903) :
  Calls Try.prog 50 #[.slice A n c,.slice B m d] w fun e w' => e = .returned (.bool (xs == ys)) ∧ ∃ q,w' = w.drewN q:=by
 have lx:=hx.len
 have ly:=hy.len
 by_cases hnm : n = m
 ·subst hnm
  have hd : ((n : Int) != (n : Int)) = false:=by simp
  have LX:=Lib.hid lx
  have LY:=Lib.hid ly
  clear lx ly
  go_enter Try.func50,Try.ntmps50
  go_wp2_with fail
  go_loopw [5] (fun i w1 => ∃ k q : Nat,k ≤ n ∧ i = .int .i64 k ∧ w1 = w.drewN q ∧ Hid (xs.take k = ys.take k)) (fun i _ => n - (intOf i).toNat)
  case atStart => exact ⟨0,0,Nat.zero_le _,rfl,rfl,by simp [Hid]⟩
  case round =>
   obtain ⟨k,q,hk,rfl,rfl,heq⟩:=hrel
   by_cases hlt : k < n
   ·obtain ⟨b,o,rfl,hb,hc⟩:=hx.at_ (by omega)
    obtain ⟨b',o',rfl,hb',hc'⟩:=hy.at_ (by omega)
    have c1:=hc k hlt
    have c2:=hc' k hlt
    clear hc hc'
    have i1 : (k : Int) < (n : Int):=by omega
    go_wp2_with fail
    go_quiet (fail)
    go_wp2_with fail
    ·have hne : (xs[k]?.getD 0 != ys[k]?.getD 0) = true:=by assumption
     go_ret
     have h1:=LX.out; have h2:=LY.out
     have:=ne_of_at xs ys 0 k (by simpa using hne)
     exact ⟨by simp [this],_,dN ..⟩
    ·have hne : (xs[k]?.getD 0 != ys[k]?.getD 0) = false:=by assumption
     go_roundw
     case rel =>
      have h1:=LX.out; have h2:=LY.out
      exact ⟨k + 1,_,by omega,by go_num,rfl,take_eq_succ xs ys 0 k (by omega) (by omega) heq.out (by simpa using hne)⟩
     case measure => simp [intOf]; omega
   ·have hkn : k = n:=by omega
    subst hkn
    go_wp2_with fail
    go_ret
    have h1:=LX.out; have h2:=LY.out
    exact ⟨by simp [eq_of_take xs ys k h1 h2 heq.out],_,rfl⟩
 ·have hd : ((n : Int) != (m : Int)) = true:=by simp; omega
  go_enter Try.func50,Try.ntmps50
  go_wp2_with fail
  go_ret
  have : ¬ xs = ys:=by rintro rfl; omega
  exact ⟨by simp [this],0,rfl⟩
end Go.Proofs.Ytapljpcpmdlppaa
/-
 EvalArith of the reference.
-/
namespace Go.Proofs.Ytapljpcpmdlppaa
open Go.RowKit
set_option linter.unusedVariables false
set_option linter.unusedSimpArgs false
set_option maxHeartbeats 1000000 in
theorem specEvalArith_no (m : AM) (v : Value) (A : Option Addr) (n c : Nat) (ins : List Int) (w : World) (h : AggR w (carith m) v) (wf : m.wf) (hi : Ints w A n ins) (hn : n ≤ 1048576) (hno : ¬ EvOk m ins) :
  Calls Try.prog 49 #[v,.slice A n c] w (EvJ m ins w):=by
 have HNO:=Lib.hid hno
 have HI:=Lib.hid hi
 have HL:=Lib.hid hi.len
 have HA:=Lib.hid h
 have HW:=Lib.hid wf
 obtain ⟨u1,u2,rfl,h1,h2⟩:=carith_open h
 have A1:=Lib.hid ((Blk.new w 30 #[.int .i64 m.p,u1,u2]).grow (gbA (gbR _ none) (.cells #[] 3)))
 have G1:=Lib.hid (gbA (gbA (gbR w none) (.cells #[.int .i64 m.p,u1,u2] 30)) (.cells #[] 3))
 have O1 : Hid (((w.alloc (.cells #[.int .i64 m.p,u1,u2] 30)).alloc (.cells #[] 3)).ownsRow w.heap.size 3 1 (.slice (some ⟨w.heap.size + 1,0,none⟩) 0 0) 0 []):=by
  have:=World.ownsRow_made (e:=3) (size:=1) (base:=w.heap.size) (w.alloc (.cells #[.int .i64 m.p,u1,u2] 30)) #[] 0 (by simp) (by simp) rfl
  simpa [Hid] using this
 clear h h1 h2 wf hi
 have c0':=A1.out.cell 0
 have c1':=A1.out.cell 1
 have c2':=A1.out.cell 2
 simp at c0' c1' c2'
 cases hok : arithB m with
 | false =>
  have HOK:=Lib.hid hok
  clear hok hno
  go_enter Try.func49,Try.ntmps49
  go_wp2_with fail
  refine (specArithOk_c m _ _ (AggR.grow HA.out G1.out) HW.out).mono ?_
  rintro e w1 ⟨rfl,g⟩
  rw [HOK.out]
  have G2:=Lib.hid (gbT G1.out g)
  have O2:=Lib.hid (own_grow O1.out g)
  clear g
  go_wp2_with fail
  go_ret2
  exact EvJ.no HNO.out O2.out G2.out
 | true =>
  have HOK:=Lib.hid hok
  have hok':=arithB_is hok
  by_cases h60 : n = 60
  ·subst h60
   have hel : elemsB m.p ins = false:=by
    cases he : elemsB m.p ins with
    | false => rfl
    | true => exact absurd ⟨hok',HL.out,he⟩ hno
   have HE:=Lib.hid hel
   have hf:=field_range hok'.fld
   have hp1 : m.p ≤ 101:=hf.2
   have hp0 : 2 ≤ m.p:=hf.1
   clear hok hok' hel hno hf
   go_enter Try.func49,Try.ntmps49
   go_wp2_with fail
   refine (specArithOk_c m _ _ (AggR.grow HA.out G1.out) HW.out).mono ?_
   rintro e w1 ⟨rfl,g⟩
   rw [HOK.out]
   have A2:=Lib.hid (A1.out.grow g)
   have G2:=Lib.hid (gbT G1.out g)
   have O2:=Lib.hid (own_grow O1.out g)
   have c0:=A2.out.cell 0
   simp at c0
   clear g
   go_wp2_with fail
   refine (specl03All_c m.p A 60 c ins _ (by omega) (Ints.grow HI.out G2.out) (by omega)).mono ?_
   rintro e w2 ⟨rfl,rfl⟩
   rw [HE.out]
   go_wp2_with fail
   go_ret2
   exact EvJ.no HNO.out O2.out G2.out
  ·have d : ((n : Int) != 60) = true:=by simp; omega
   clear hok hok' hno
   go_enter Try.func49,Try.ntmps49
   go_wp2_with fail
   refine (specArithOk_c m _ _ (AggR.grow HA.out G1.out) HW.out).mono ?_
   rintro e w1 ⟨rfl,g⟩
   rw [HOK.out]
   have G2:=Lib.hid (gbT G1.out g)
   have O2:=Lib.hid (own_grow O1.out g)
   clear g
   go_wp2_with fail
   go_ret2
   exact EvJ.no HNO.out O2.out G2.out
set_option maxRecDepth 100000 in
set_option maxHeartbeats 4000000 in
theorem specEvalArith_yes (m : AM) (v : Value) (A0 : Option Addr) (c00 : Nat) (ins : List Int) (w : World) (h : AggR w (carith m) v) (wf : m.wf) (hi : Ints w A0 60 ins) (hok : EvOk m ins) (ho : m.outs.length ≤ 1048576) :
  Calls Try.prog 49 #[v,.slice A0 60 c00] w (EvJ m ins w):=by
 have HV:=Lib.hid h
 have HI:=Lib.hid hi
 obtain ⟨u1,u2,rfl,h1,h2⟩:=carith_open h
 obtain ⟨A,c,rfl,hc,hm,hF⟩:=plst_rd (s:=3) (fun _ => rfl) (by omega) h1
 obtain ⟨A2,c2',rfl,hc2,hm2,hO⟩:=cints_rd h2
 clear h h1 h2 hi
 unfold maxLen at hm
 obtain ⟨n,hn⟩ : ∃ n,m.st.length = n:=⟨_,rfl⟩
 obtain ⟨q,hq⟩ : ∃ q,m.outs.length = q:=⟨_,rfl⟩
 have h60:=hok.ok.few
 rw [hn] at hF hc h60 HV ⊢
 rw [hq] at hc2 hO ho HV ⊢
 have HN:=Lib.hid hn
 have HQ:=Lib.hid hq
 have HF:=Lib.hid hF
 have HO:=Lib.hid hO
 have HOK:=Lib.hid hok
 have HW:=Lib.hid wf
 have hf:=elemsB_is hok.el
 have hp0:=hf.2.1
 have hp1:=hf.2.2.1
 obtain ⟨p,hp⟩ : ∃ p,m.p = p:=⟨_,rfl⟩
 have A1:=Lib.hid ((Blk.new w 30 #[.int .i64 m.p,.slice A n c,.slice A2 q c2']).grow (gbA (gbR _ none) (.cells #[] 3)))
 have G1:=Lib.hid (gbA (gbA (gbR w none) (.cells #[.int .i64 m.p,.slice A n c,.slice A2 q c2'] 30)) (.cells #[] 3))
 have T1:=Lib.hid (World.ownsRow_made (e:=3) (size:=1) (base:=w.heap.size + 1) (w.alloc (.cells #[.int .i64 m.p,.slice A n c,.slice A2 q c2'] 30)) #[] 0 (by simp) (by simp) rfl)
 rw [show (w.alloc (.cells #[.int .i64 m.p,.slice A n c,.slice A2 q c2'] 30)).heap.size = w.heap.size + 1 by simp] at T1
 rw [hp] at hp0 hp1 A1 G1 T1 HV ⊢
 have HP:=Lib.hid hp
 clear hF wf hn hok hq hO hf hp
 have k0:=A1.out.cell 0
 have k1:=A1.out.cell 1
 have k2:=A1.out.cell 2
 simp at k0 k1 k2
 go_enter Try.func49,Try.ntmps49
 go_wp2_with fail
 refine (specArithOk_c m _ _ (AggR.grow HV.out G1.out) HW.out).mono ?_
 rintro e w1 ⟨rfl,g⟩
 rw [arithB_yes HOK.out.ok]
 have A2':=Lib.hid (A1.out.grow g)
 have G2:=Lib.hid (gbT G1.out g)
 have T2:=Lib.hid (own_grow T1.out g)
 have hTl:=(T2.out.lt (w.heap.size + 1) rfl).2
 have O2:=Lib.hid (World.ownsRow_made (e:=3) (size:=1) (base:=w.heap.size + 2) w1 #[] 0 (by omega) (by simp) rfl)
 have A3:=Lib.hid (A2'.out.grow (gbA (gbR w1 none) (.cells #[] 3)))
 have G3:=Lib.hid (gbA G2.out (.cells #[] 3))
 have T3:=Lib.hid (own_grow T2.out (gbA (gbR w1 none) (.cells #[] 3)))
 have c0:=A2'.out.cell 0
 have c1:=A2'.out.cell 1
 simp at c0 c1
 have hbw:=A2'.out.lt
 have c1':=kA c1 (.cells #[] 3)
 clear g A1 G1 T1 k0 k1 k2
 go_wp2_with fail
 refine (specl03All_c p A0 60 c00 ins _ (by omega) (Ints.grow HI.out G2.out) (by omega)).mono ?_
 rintro e w2 ⟨rfl,rfl⟩
 rw [show elemsB p ins = true by rw [← HP.out]; exact HOK.out.el]
 go_wp2_with fail
 clear c0 c1 c1' hbw hTl A2' G2 T2
 go_loopw [7,8] (fun s i wr => ∃ k : Nat,k ≤ n ∧ i = .int .i64 k ∧ Hid (wr.ownsRow (w.heap.size + 2) 3 1 s k ((evS m ins k).map (Value.int .i64))) ∧ Hid (Blk wr w.heap.size 30 #[.int .i64 p,.slice A n c,.slice A2 q c2']) ∧ Hid (w.grownBy wr none) ∧ Hid (wr.ownsRow (w.heap.size + 1) 3 1 (.slice (some ⟨w.heap.size + 1,0,none⟩) 0 0) 0 [])) (fun _ i _ => n - (intOf i).toNat)
 case atStart => exact ⟨0,Nat.zero_le _,rfl,O2.out,A3.out,G3.out,T3.out⟩
 case round =>
  clear O2 A3 G3 T3
  obtain ⟨k,hk,rfl,hown,hB,hG,hT⟩:=hrel
  have d1_:=hB.out.cell 1
  simp at d1_
  by_cases hlt : k < n
  ·obtain ⟨b,o,x,y,z,rfl,hb,hx,q0,q1,q2⟩:=steps_at (FL.grow HF.out hG.out) hlt
   have i1 : (k : Int) < (n : Int):=by omega
   have hx' : stAt m k = (x,y,z):=by simp [stAt,List.getD_eq_getElem?_getD,hx]
   clear hx
   obtain ⟨S,sc,rfl,_,_⟩:=own_form hown.out
   have HDS : Hid (evS m ins (k + 1) = evS m ins k ++ [evD m.p ins (evS m ins k) (x,y,z)]):=by unfold Hid; rw [evS,hx']
   have hsb:=HOK.out.ok.steps k (by rw [HN.out]; exact hlt)
   rw [hx'] at hsb
   by_cases h1 : x = 1
   ·subst h1
    have hy : 0 ≤ y ∧ y ≤ 59:=by simp [stepB] at hsb; exact inB_iff.1 hsb.1
    obtain ⟨yn,rfl⟩:=Int.eq_ofNat_of_zero_le hy.1
    have hyn : yn < 60:=by omega
    obtain ⟨bi,oi,rfl,hbi,ci⟩:=Ints.cell (Ints.grow HI.out hG.out) hyn
    have HD : evD m.p ins (evS m ins k) ((1 : Int),((yn : Int),z)) = ins.getD yn 0:=by simp [evD]
    rw [HD] at HDS
    clear HD hx' hsb
    generalize ins.getD yn 0 = d at *
    have ci':=fun o => kA ci o
    have hyi : (yn : Int) < 60:=by omega
    have OW:=Lib.hid (own_grow hown.out (gbA (gbR wr none) (.cells #[.int .i64 1,.int .i64 yn,.int .i64 z] 39)))
    have BW:=Lib.hid (hB.out.grow (gbA (gbR wr none) (.cells #[.int .i64 1,.int .i64 yn,.int .i64 z] 39)))
    have GW:=Lib.hid (gbT hG.out (gbA (gbR wr none) (.cells #[.int .i64 1,.int .i64 yn,.int .i64 z] 39)))
    have TW:=Lib.hid (own_grow hT.out (gbA (gbR wr none) (.cells #[.int .i64 1,.int .i64 yn,.int .i64 z] 39)))
    have hsz:=hB.out.lt
    have hsz2:=(hT.out.lt (w.heap.size + 1) rfl).2
    clear hown hB hG hT
    go_wp2_with (at_builtin; refine wp_append1h _ (wr.heap.size + 1) (by simp) el_int rfl (.tmp 83) (.tmp 85) rfl _ rfl (by simp [Value.oneCell']) (w.heap.size + 2) _ k _ OW.out rfl rfl (by unfold maxLen; omega) (by omega) (by simp; omega) ?_; intro v' w5 hown5 hgrow5)
    have h1 : Hid (w5.ownsRow (w.heap.size + 2) 3 1 v' (k + 1) ((evS m ins (k + 1)).map (Value.int .i64))):=by unfold Hid; rw [HDS.out]; simpa using hown5
    have h2:=Lib.hid (BW.out.grown hgrow5 (fun e => by have:=(OW.out.lt _ e.symm).1; omega))
    have h3:=Lib.hid (gbN GW.out hgrow5 fun g e => by have:=(OW.out.lt g e).1; omega)
    have h4:=Lib.hid (own_grown TW.out hgrow5 (.inr (fun e => by have:=(OW.out.lt (w.heap.size + 1) e.symm).1; omega)))
    clear hown5 hgrow5 OW BW GW TW
    go_wp2_with fail
    go_roundw
    case rel => exact ⟨k + 1,by omega,by go_num,h1,h2.out,h3.out,h4.out⟩
    case measure => simp [intOf]; omega
   ·have d1 : (x == 1) = false:=by simp; omega
    by_cases h2 : x = 2
    ·subst h2
     have HD : evD m.p ins (evS m ins k) ((2 : Int),(y,z)) = y:=by simp [evD]
     rw [HD] at HDS
     clear HD hx' hsb d1 h1
     have OW:=Lib.hid (own_grow hown.out (gbA (gbR wr none) (.cells #[.int .i64 2,.int .i64 y,.int .i64 z] 39)))
     have BW:=Lib.hid (hB.out.grow (gbA (gbR wr none) (.cells #[.int .i64 2,.int .i64 y,.int .i64 z] 39)))
     have GW:=Lib.hid (gbT hG.out (gbA (gbR wr none) (.cells #[.int .i64 2,.int .i64 y,.int .i64 z] 39)))
     have TW:=Lib.hid (own_grow hT.out (gbA (gbR wr none) (.cells #[.int .i64 2,.int .i64 y,.int .i64 z] 39)))
     have hsz:=hB.out.lt
     have hsz2:=(hT.out.lt (w.heap.size + 1) rfl).2
     clear hown hB hG hT
     go_wp2_with (at_builtin; refine wp_append1h _ (wr.heap.size + 1) (by simp) el_int rfl (.tmp 83) (.tmp 85) rfl _ rfl (by simp [Value.oneCell']) (w.heap.size + 2) _ k _ OW.out rfl rfl (by unfold maxLen; omega) (by omega) (by simp; omega) ?_; intro v' w5 hown5 hgrow5)
     have h1 : Hid (w5.ownsRow (w.heap.size + 2) 3 1 v' (k + 1) ((evS m ins (k + 1)).map (Value.int .i64))):=by unfold Hid; rw [HDS.out]; simpa using hown5
     have h2:=Lib.hid (BW.out.grown hgrow5 (fun e => by have:=(OW.out.lt _ e.symm).1; omega))
     have h3:=Lib.hid (gbN GW.out hgrow5 fun g e => by have:=(OW.out.lt g e).1; omega)
     have h4:=Lib.hid (own_grown TW.out hgrow5 (.inr (fun e => by have:=(OW.out.lt (w.heap.size + 1) e.symm).1; omega)))
     clear hown5 hgrow5 OW BW GW TW
     go_wp2_with fail
     go_roundw
     case rel => exact ⟨k + 1,by omega,by go_num,h1,h2.out,h3.out,h4.out⟩
     case measure => simp [intOf]; omega
    ·have d2 : (x == 2) = false:=by simp; omega
     have h34 : x = 3 ∨ x = 4:=by
      by_cases e : x = 3 ∨ x = 4
      ·exact e
      ·simp [stepB,h1,h2,e] at hsb
     obtain ⟨ya,za,rfl,rfl,hya,hza⟩:=step_ops HOK.out.ok (by rw [HN.out]; exact hlt) hx' h34
     clear hx' hsb d1 d2 h1 h2
     have r1:=evS_rng HOK.out k (by rw [HN.out]; omega) ya
     have r2:=evS_rng HOK.out k (by rw [HN.out]; omega) za
     obtain ⟨gV,cV,ev,hcV,hbV,hmV⟩:=own_form2 hown.out (by omega)
     injection ev with e1 _ e3
     subst e1; subst e3
     have cA : wr.cell? ⟨gV,ya,none⟩ = some (.int .i64 ((evS m ins k).getD ya 0)):=by
      obtain ⟨bb,ob,e1,_,r⟩:=Ints.cell (show Ints wr (some ⟨gV,0,none⟩) k (evS m ins k) from Rd.ofOwn hown.out) hya
      injection e1 with e1; injection e1 with e1 e2; subst e1; subst e2; rw [Nat.zero_add] at r; exact r
     have cB : wr.cell? ⟨gV,za,none⟩ = some (.int .i64 ((evS m ins k).getD za 0)):=by
      obtain ⟨bb,ob,e1,_,r⟩:=Ints.cell (show Ints wr (some ⟨gV,0,none⟩) k (evS m ins k) from Rd.ofOwn hown.out) hza
      injection e1 with e1; injection e1 with e1 e2; subst e1; subst e2; rw [Nat.zero_add] at r; exact r
     have HD : Hid (evD m.p ins (evS m ins k) (x,(ya : Int),(za : Int)) = if x = 3 then ((evS m ins k).getD ya 0 + (evS m ins k).getD za 0) % p else ((evS m ins k).getD ya 0 * (evS m ins k).getD za 0) % p):=by
      unfold Hid evD
      rw [HP.out]
      simp only [Int.toNat_natCast]
      rcases h34 with rfl | rfl <;> rfl
     rw [HD.out] at HDS
     clear HD
     obtain ⟨da,hda⟩ : ∃ d,(evS m ins k).getD ya 0 = d:=⟨_,rfl⟩
     obtain ⟨db,hdb⟩ : ∃ d,(evS m ins k).getD za 0 = d:=⟨_,rfl⟩
     rw [hda] at r1 cA HDS
     rw [hdb] at r2 cB HDS
     rw [HP.out] at r1 r2
     have EA:=Lib.hid (elemB_mk (p:=p) (by rw [← HP.out]; exact HOK.out.ok.fld) r1.1 r1.2)
     have EB:=Lib.hid (elemB_mk (p:=p) (by rw [← HP.out]; exact HOK.out.ok.fld) r2.1 r2.2)
     clear hda hdb r1 r2
     have hia : (ya : Int) < (k : Int):=by omega
     have hib : (za : Int) < (k : Int):=by omega
     have B0:=hB.out.cell 0
     simp at B0
     have cA':=fun o => kA cA o
     have cB':=fun o => kA cB o
     have B0':=fun o => kA B0 o
     have hBl:=hB.out.lt
     rcases h34 with rfl | rfl
     ·rw [if_pos rfl] at HDS
      have hF:=fun w => specFAdd_yes p da db w EA.out EB.out
      obtain ⟨r,hr⟩ : ∃ r,(da + db) % p = r:=⟨_,rfl⟩
      rw [hr] at hF HDS
      have HF':=Lib.hid hF
      clear hF hr
      go_wp2_with fail
      go_quiet ((go_at_call 101; exact Calls.quiet_of_same ((HF'.out _).mono fun _ _ hh => ⟨hh.1,hh.2.symm⟩)))
      clear cA cB cA' cB' B0 B0' hBl
      have OW:=Lib.hid (own_grow hown.out (gbDN (gbA (gbR wr none) (.cells #[.int .i64 3,.int .i64 ya,.int .i64 za] 39)) nq))
      have BW:=Lib.hid (hB.out.grow (gbDN (gbA (gbR wr none) (.cells #[.int .i64 3,.int .i64 ya,.int .i64 za] 39)) nq))
      have GW:=Lib.hid (gbT hG.out (gbDN (gbA (gbR wr none) (.cells #[.int .i64 3,.int .i64 ya,.int .i64 za] 39)) nq))
      have TW:=Lib.hid (own_grow hT.out (gbDN (gbA (gbR wr none) (.cells #[.int .i64 3,.int .i64 ya,.int .i64 za] 39)) nq))
      have hsz:=hB.out.lt
      have hsz2:=(hT.out.lt (w.heap.size + 1) rfl).2
      clear hown hB hG hT
      go_wp2_with (at_builtin; refine wp_append1h _ (wr.heap.size + 1) (by simp) el_int rfl (.tmp 83) (.tmp 85) rfl _ rfl (by simp [Value.oneCell']) (w.heap.size + 2) _ k _ OW.out rfl rfl (by unfold maxLen; omega) (by omega) (by simp; omega) ?_; intro v' w5 hown5 hgrow5)
      have h1 : Hid (w5.ownsRow (w.heap.size + 2) 3 1 v' (k + 1) ((evS m ins (k + 1)).map (Value.int .i64))):=by unfold Hid; rw [HDS.out]; simpa using hown5
      have h2:=Lib.hid (BW.out.grown hgrow5 (fun e => by have:=(OW.out.lt _ e.symm).1; omega))
      have h3:=Lib.hid (gbN GW.out hgrow5 fun g e => by have:=(OW.out.lt g e).1; omega)
      have h4:=Lib.hid (own_grown TW.out hgrow5 (.inr (fun e => by have:=(OW.out.lt (w.heap.size + 1) e.symm).1; omega)))
      clear hown5 hgrow5 OW BW GW TW
      go_wp2_with fail
      go_roundw
      case rel => exact ⟨k + 1,by omega,by go_num,h1,h2.out,h3.out,h4.out⟩
      case measure => simp [intOf]; omega
     ·rw [if_neg (by decide)] at HDS
      have hF:=fun w => specFMul_yes p da db w EA.out EB.out
      obtain ⟨r,hr⟩ : ∃ r,(da * db) % p = r:=⟨_,rfl⟩
      rw [hr] at hF HDS
      have HF':=Lib.hid hF
      clear hF hr
      go_wp2_with fail
      go_quiet ((go_at_call 102; exact Calls.quiet_of_same ((HF'.out _).mono fun _ _ hh => ⟨hh.1,hh.2.symm⟩)))
      clear cA cB cA' cB' B0 B0' hBl
      have OW:=Lib.hid (own_grow hown.out (gbDN (gbA (gbR wr none) (.cells #[.int .i64 4,.int .i64 ya,.int .i64 za] 39)) nq))
      have BW:=Lib.hid (hB.out.grow (gbDN (gbA (gbR wr none) (.cells #[.int .i64 4,.int .i64 ya,.int .i64 za] 39)) nq))
      have GW:=Lib.hid (gbT hG.out (gbDN (gbA (gbR wr none) (.cells #[.int .i64 4,.int .i64 ya,.int .i64 za] 39)) nq))
      have TW:=Lib.hid (own_grow hT.out (gbDN (gbA (gbR wr none) (.cells #[.int .i64 4,.int .i64 ya,.int .i64 za] 39)) nq))
      have hsz:=hB.out.lt
      have hsz2:=(hT.out.lt (w.heap.size + 1) rfl).2
      clear hown hB hG hT
      go_wp2_with (at_builtin; refine wp_append1h _ (wr.heap.size + 1) (by simp) el_int rfl (.tmp 83) (.tmp 85) rfl _ rfl (by simp [Value.oneCell']) (w.heap.size + 2) _ k _ OW.out rfl rfl (by unfold maxLen; omega) (by omega) (by simp; omega) ?_; intro v' w5 hown5 hgrow5)
      have h1 : Hid (w5.ownsRow (w.heap.size + 2) 3 1 v' (k + 1) ((evS m ins (k + 1)).map (Value.int .i64))):=by unfold Hid; rw [HDS.out]; simpa using hown5
      have h2:=Lib.hid (BW.out.grown hgrow5 (fun e => by have:=(OW.out.lt _ e.symm).1; omega))
      have h3:=Lib.hid (gbN GW.out hgrow5 fun g e => by have:=(OW.out.lt g e).1; omega)
      have h4:=Lib.hid (own_grown TW.out hgrow5 (.inr (fun e => by have:=(OW.out.lt (w.heap.size + 1) e.symm).1; omega)))
      clear hown5 hgrow5 OW BW GW TW
      go_wp2_with fail
      go_roundw
      case rel => exact ⟨k + 1,by omega,by go_num,h1,h2.out,h3.out,h4.out⟩
      case measure => simp [intOf]; omega
  ·have hkn : k = n:=by omega
   subst hkn
   obtain ⟨S,sc,rfl,_,_⟩:=own_form hown.out
   have b2:=hB.out.cell 2
   simp at b2
   have OW:=Lib.hid hown.out
   have BW:=Lib.hid hB.out
   have GW:=Lib.hid hG.out
   have TW:=Lib.hid hT.out
   clear hown hB hG hT
   have SEP : Hid (∀ g,(Value.slice (some ⟨w.heap.size + 1,0,none⟩) 0 0).ownBlock = some g → (Value.slice S k sc).ownBlock ≠ some g):=fun g e1 e2 => by
    have : w.heap.size + 1 = g:=by simpa [Value.ownBlock] using e1
    have:=(OW.out.lt g e2).1
    omega
   go_wp2_with fail
   clear b2 d1_
   obtain ⟨wo,rfl⟩ : ∃ wo : World,wo = wr:=⟨_,rfl⟩
   go_loopw [6,11] (fun s i wi => ∃ j : Nat,j ≤ q ∧ i = .int .i64 j ∧ Hid (wi.ownsRow (w.heap.size + 1) 3 1 s j ((evOut m ins j).map (Value.int .i64))) ∧ Hid (wi.ownsRow (w.heap.size + 2) 3 1 (.slice S k sc) k ((evS m ins k).map (Value.int .i64))) ∧ Hid (∀ g,s.ownBlock = some g → (Value.slice S k sc).ownBlock ≠ some g) ∧ Hid (Blk wi w.heap.size 30 #[.int .i64 p,.slice A k c,.slice A2 q c2']) ∧ Hid (w.grownBy wi none)) (fun _ i _ => q - (intOf i).toNat)
   case atStart => exact ⟨0,Nat.zero_le _,rfl,TW.out,OW.out,SEP.out,BW.out,GW.out⟩
   case round =>
    clear TW OW BW GW SEP
    obtain ⟨j,hj,rfl,hown,hv,hsep,hB,hG⟩:=hrel
    have b2:=hB.out.cell 2
    simp at b2
    by_cases hlt2 : j < q
    ·obtain ⟨b,o,rfl,hb,cz⟩:=Ints.cell (Ints.grow HO.out hG.out) hlt2
     have i1 : (j : Int) < (q : Int):=by omega
     have HDS:=Lib.hid (evOut_succ m ins j (by rw [HQ.out]; exact hlt2))
     have hz : inB (m.outs.getD j 0) 0 (m.st.length - 1) = true:=HOK.out.ok.outs _ (by rw [getI _ _ (by rw [HQ.out]; exact hlt2)]; exact List.getElem_mem _)
     rw [inB_iff,HN.out] at hz
     rw [HN.out] at HDS
     generalize m.outs.getD j 0 = z at *
     obtain ⟨zn,rfl⟩:=Int.eq_ofNat_of_zero_le hz.1
     have hzn : zn < k:=by omega
     obtain ⟨bb,ob,rfl,_,r1⟩:=Ints.cell (show Ints wr S k (evS m ins k) from Rd.ofOwn hv.out) hzn
     rw [Int.toNat_natCast] at HDS
     generalize (evS m ins k).getD zn 0 = d at *
     have hzi : (zn : Int) < (k : Int):=by omega
     obtain ⟨S2,sc2,rfl,_,_⟩:=own_form hown.out
     have O1:=Lib.hid hown.out
     have V1:=Lib.hid hv.out
     have B1:=Lib.hid hB.out
     have G1:=Lib.hid hG.out
     have SP:=Lib.hid hsep.out
     have hsz:=hB.out.lt
     clear hown hG hz hv hsep hB
     go_wp2_with (at_builtin; refine wp_appendB wr wr.heap.size rfl el_int rfl (.tmp 94) (.tmp 103) rfl _ rfl (by simp [Value.oneCell']) (w.heap.size + 1) _ j _ O1.out rfl rfl (by unfold maxLen; omega) (by omega) (by omega) ?_; intro v' w5 hown5 hgrow5 hloc5)
     have h1 : Hid (w5.ownsRow (w.heap.size + 1) 3 1 v' (j + 1) ((evOut m ins (j + 1)).map (Value.int .i64))):=by unfold Hid; rw [HDS.out]; simpa using hown5
     have h2:=Lib.hid (own_grown V1.out hgrow5 (by
      cases hb2 : (Value.slice S2 j sc2).ownBlock with
      | none => exact .inr (fun e => by simp [Value.ownBlock] at e)
      | some g => exact .inr (SP.out g hb2)))
     have h3:=Lib.hid (gbN G1.out hgrow5 fun g e => by have:=(O1.out.lt g e).1; omega)
     have h4:=Lib.hid (B1.out.grown hgrow5 (fun e => by have:=(O1.out.lt _ e.symm).1; omega))
     have h5 : Hid (∀ g,v'.ownBlock = some g → (Value.slice (some ⟨bb,ob,none⟩) k sc).ownBlock ≠ some g):=fun g e1 e2 => by
      rcases hloc5 g e1 with h6 | h6
      ·exact SP.out g h6.symm e2
      ·have:=(V1.out.lt g e2).2; omega
     clear hown5 hgrow5 hloc5 O1 V1 B1 G1 SP b2
     go_wp2_with fail
     go_roundw
     case rel => exact ⟨j + 1,by omega,by go_num,h1,h2.out,h5,h4.out,h3.out⟩
     case measure => simp [intOf]; omega
    ·have hjn : j = q:=by omega
     subst hjn
     have O1:=Lib.hid hown.out
     have G1:=Lib.hid hG.out
     clear hown hG hv hsep hB
     go_wp2_with fail
     go_ret2
     exact EvJ.yes HOK.out HQ.out.symm (own_base O1.out (by omega)) G1.out
theorem specEvalArith_c (m : AM) (v : Value) (A : Option Addr) (n c : Nat) (ins : List Int) (w : World) (h : AggR w (carith m) v) (wf : m.wf) (hi : Ints w A n ins) (hn : n ≤ 1048576) (ho : m.outs.length ≤ 1048576) :
  Calls Try.prog 49 #[v,.slice A n c] w (EvJ m ins w):=by
 by_cases hok : EvOk m ins
 ·have : n = 60:=by rw [← hi.len,hok.len]
  subst this
  exact specEvalArith_yes m v A c ins w h wf hi hok ho
 ·exact specEvalArith_no m v A n c ins w h wf hi hn hok
end Go.Proofs.Ytapljpcpmdlppaa
