/-
 EvalArith of the program.
-/
import Derived.Test.YtapljpcpmdlppaaMgFnCheated12
namespace Go.Proofs.Ytapljpcpmdlppaa
open Go.RowKit
set_option linter.unusedVariables false
set_option linter.unusedSimpArgs false
def rowL (lo : Nat) (n : Nat) (xs : List Value) (v : Value) (w : World) : Prop:=∃ A c,v = .slice A n c ∧ w.ownsRow lo 3 1 v n xs
theorem rowL_st {lo n : Nat} {xs : List Value} : stable (rowL lo n xs):=fun v w w' h hg => by
 obtain ⟨A,c,e1,ho⟩:=h
 exact ⟨A,c,e1,own_grow ho hg⟩
def eqF (a b : Tmp) : Fact:=⟨[a,b],fun l _ => l.getD 0 undef = l.getD 1 undef⟩
theorem eqF_st (a b : Tmp) : stableF (eqF a b):=fun _ _ _ h _ => h
theorem eqF_at (a b : Tmp) (f : Tmp → Value) (w : World) : (eqF a b).at_ f w = (f a = f b):=rfl
def lit1 (H : Nat) (x : Value) (v : Value) (w : World) : Prop:=∃ g,v = .slice (some ⟨g,0,none⟩) 1 1 ∧ w.ownsRow H 3 1 v 1 [x]
theorem lit1_st {H : Nat} {x : Value} : stable (lit1 H x):=fun v w w' h hg => by
 obtain ⟨g,e1,ho⟩:=h
 exact ⟨g,e1,own_grow ho hg⟩
theorem own_litI {w : World} {base : Nat} (hb : base ≤ w.heap.size) (u : Value) (e : TypeId) : (w.alloc (.cells #[u] e)).ownsRow base e 1 (.slice (some ⟨w.heap.size,0,none⟩) 1 1) 1 [u] :=
 ⟨rfl,.inr ⟨_,1,#[u],rfl,hb,heap_alloc_new w _,Nat.le_refl _,by unfold maxLen; omega,rfl,rfl⟩⟩
set_option maxHeartbeats 1000000 in
theorem implEvalArith_no (m : AM) (v : Value) (A : Option Addr) (n c : Nat) (ins : List Int) (w : World) (h : AggR w (carith m) v) (wf : m.wf) (hi : Ints w A n ins) (hn : n ≤ 1048576) (hno : ¬ EvOk m ins) :
  Calls Try.prog 29 #[v,.slice A n c] w (EvJ m ins w):=by
 have HNO:=Lib.hid hno
 have HI:=Lib.hid hi
 have HL:=Lib.hid hi.len
 have HA:=Lib.hid h
 have HW:=Lib.hid wf
 obtain ⟨u1,u2,rfl,h1,h2⟩:=carith_open h
 have A1:=Lib.hid (Blk.new w 30 #[.int .i64 m.p,u1,u2])
 have G1:=Lib.hid (gbA (gbR w none) (.cells #[.int .i64 m.p,u1,u2] 30))
 clear h h1 h2 wf hi
 cases hok : arithB m with
 | false =>
  have HOK:=Lib.hid hok
  clear hok hno
  go_enter Try.func29,Try.ntmps29
  go_wp2_with fail
  refine (implArithOk_c m _ _ (AggR.grow HA.out G1.out) HW.out).mono ?_
  rintro e w1 ⟨rfl,g⟩
  rw [HOK.out]
  have G2:=Lib.hid (gbT G1.out g)
  clear g
  go_wp2_with fail
  go_ret2
  exact EvJ.no HNO.out (World.ownsRow_nil _ _ _ _) G2.out
 | true =>
  have HOK:=Lib.hid hok
  have hok':=arithB_is hok
  by_cases h60 : n = 60
  ·subst h60
   have hel : elemsB m.p ins = false:=by
    cases he : elemsB m.p ins with
    | false => rfl
    | true => exact absurd ⟨hok',HL.out,he⟩ hno
   have HE:=Lib.hid hel
   have hf:=field_range hok'.fld
   have hp1 : m.p ≤ 101:=hf.2
   have hp0 : 2 ≤ m.p:=hf.1
   clear hok hok' hel hno hf
   go_enter Try.func29,Try.ntmps29
   go_wp2_with fail
   refine (implArithOk_c m _ _ (AggR.grow HA.out G1.out) HW.out).mono ?_
   rintro e w1 ⟨rfl,g⟩
   rw [HOK.out]
   have A2:=Lib.hid (A1.out.grow g)
   have G2:=Lib.hid (gbT G1.out g)
   have c0:=A2.out.cell 0
   simp at c0
   clear g
   go_wp2_with fail
   refine (implareElements_c m.p A 60 c ins _ (by omega) (by omega) (Ints.grow HI.out G2.out) (by omega)).mono ?_
   rintro e w2 ⟨rfl,rfl⟩
   rw [HE.out]
   go_wp2_with fail
   go_ret2
   exact EvJ.no HNO.out (World.ownsRow_nil _ _ _ _) G2.out
  ·have d : ((n : Int) != 60) = true:=by simp; omega
   clear hok hok' hno
   go_enter Try.func29,Try.ntmps29
   go_wp2_with fail
   refine (implArithOk_c m _ _ (AggR.grow HA.out G1.out) HW.out).mono ?_
   rintro e w1 ⟨rfl,g⟩
   rw [HOK.out]
   have G2:=Lib.hid (gbT G1.out g)
   clear g
   go_wp2_with fail
   go_ret2
   exact EvJ.no HNO.out (World.ownsRow_nil _ _ _ _) G2.out
set_option maxRecDepth 100000 in
set_option maxHeartbeats 4000000 in
theorem implEvalArith_yes (m : AM) (v : Value) (A0 : Option Addr) (c00 : Nat) (ins : List Int) (w : World) (h : AggR w (carith m) v) (wf : m.wf) (hi : Ints w A0 60 ins) (hok : EvOk m ins) (ho : m.outs.length ≤ 1048576) :
  Calls Try.prog 29 #[v,.slice A0 60 c00] w (EvJ m ins w):=by
 have HV:=Lib.hid h
 have HI:=Lib.hid hi
 obtain ⟨u1,u2,rfl,h1,h2⟩:=carith_open h
 obtain ⟨A,c,rfl,hc,hm,hF⟩:=plst_rd (s:=3) (fun _ => rfl) (by omega) h1
 obtain ⟨A2,c2',rfl,hc2,hm2,hO⟩:=cints_rd h2
 clear h h1 h2 hi
 unfold maxLen at hm
 obtain ⟨n,hn⟩ : ∃ n,m.st.length = n:=⟨_,rfl⟩
 obtain ⟨q,hq⟩ : ∃ q,m.outs.length = q:=⟨_,rfl⟩
 have h60:=hok.ok.few
 rw [hn] at hF hc h60 HV ⊢
 rw [hq] at hc2 hO ho HV ⊢
 have HN:=Lib.hid hn
 have HQ:=Lib.hid hq
 have HF:=Lib.hid hF
 have HO:=Lib.hid hO
 have HOK:=Lib.hid hok
 have HW:=Lib.hid wf
 have hf:=elemsB_is hok.el
 have hp0:=hf.2.1
 have hp1:=hf.2.2.1
 obtain ⟨p,hp⟩ : ∃ p,m.p = p:=⟨_,rfl⟩
 have A1:=Lib.hid (Blk.new w 30 #[.int .i64 m.p,.slice A n c,.slice A2 q c2'])
 have G1:=Lib.hid (gbA (gbR w none) (.cells #[.int .i64 m.p,.slice A n c,.slice A2 q c2'] 30))
 rw [hp] at hp0 hp1 A1 G1 HV ⊢
 have HP:=Lib.hid hp
 clear hF wf hn hok hq hO hf hp
 go_enter Try.func29,Try.ntmps29
 go_wp2_with fail
 refine (implArithOk_c m _ _ (AggR.grow HV.out G1.out) HW.out).mono ?_
 rintro e w1 ⟨rfl,g⟩
 rw [arithB_yes HOK.out.ok]
 have A2':=Lib.hid (A1.out.grow g)
 have G2:=Lib.hid (gbT G1.out g)
 have hlo:=G2.out.size
 have O2:=Lib.hid (World.ownsRow_made (e:=3) (size:=1) (base:=w.heap.size + 1) w1 #[] 0 A2'.out.lt (by simp) rfl)
 have A3:=Lib.hid (A2'.out.grow (gbA (gbR w1 none) (.cells #[] 3)))
 have G3:=Lib.hid (gbA G2.out (.cells #[] 3))
 have c0:=A2'.out.cell 0
 have c1:=A2'.out.cell 1
 simp at c0 c1
 have hbw:=A2'.out.lt
 have c1':=kA c1 (.cells #[] 3)
 clear g A1 G1
 go_wp2_with fail
 refine (implareElements_c p A0 60 c00 ins _ (by omega) (by omega) (Ints.grow HI.out G2.out) (by omega)).mono ?_
 rintro e w2 ⟨rfl,rfl⟩
 rw [show elemsB p ins = true by rw [← HP.out]; exact HOK.out.el]
 go_wp2_with fail
 clear c0 c1 c1' hbw hlo A2' G2
 go_loopw [6,31] (fun s i wr => ∃ k : Nat,k ≤ n ∧ i = .int .i64 k ∧ Hid (wr.ownsRow (w.heap.size + 1) 3 1 s k ((evS m ins k).map (Value.int .i64))) ∧ Hid (Blk wr w.heap.size 30 #[.int .i64 p,.slice A n c,.slice A2 q c2']) ∧ Hid (w.grownBy wr none)) (fun _ i _ => n - (intOf i).toNat)
 case atStart => exact ⟨0,Nat.zero_le _,rfl,O2.out,A3.out,G3.out⟩
 case round =>
  clear O2 A3 G3
  obtain ⟨k,hk,rfl,hown,hB,hG⟩:=hrel
  by_cases hlt : k < n
  ·obtain ⟨b,o,x,y,z,rfl,hb,hx,q0,q1,q2⟩:=steps_at (FL.grow HF.out hG.out) hlt
   have i1 : (k : Int) < (n : Int):=by omega
   have hx' : stAt m k = (x,y,z):=by simp [stAt,List.getD_eq_getElem?_getD,hx]
   clear hx
   obtain ⟨S,sc,rfl,_,_⟩:=own_form hown.out
   have HDS : Hid (evS m ins (k + 1) = evS m ins k ++ [evD m.p ins (evS m ins k) (x,y,z)]):=by unfold Hid; rw [evS,hx']
   have hsb:=HOK.out.ok.steps k (by rw [HN.out]; exact hlt)
   rw [hx'] at hsb
   by_cases h1 : x = 1
   ·subst h1
    have hy : 0 ≤ y ∧ y ≤ 59:=by simp [stepB] at hsb; exact inB_iff.1 hsb.1
    obtain ⟨yn,rfl⟩:=Int.eq_ofNat_of_zero_le hy.1
    have hyn : yn < 60:=by omega
    obtain ⟨bi,oi,rfl,hbi,ci⟩:=Ints.cell (Ints.grow HI.out hG.out) hyn
    have HD : evD m.p ins (evS m ins k) ((1 : Int),((yn : Int),z)) = ins.getD yn 0:=by simp [evD]
    rw [HD] at HDS
    clear HD hx' hsb
    generalize ins.getD yn 0 = d at *
    have ci':=fun o => kA ci o
    have hyi : (yn : Int) < 60:=by omega
    have OW:=Lib.hid (own_grow hown.out (gbA (gbR wr none) (.cells #[.int .i64 1,.int .i64 yn,.int .i64 z] 39)))
    have BW:=Lib.hid (hB.out.grow (gbA (gbR wr none) (.cells #[.int .i64 1,.int .i64 yn,.int .i64 z] 39)))
    have GW:=Lib.hid (gbT hG.out (gbA (gbR wr none) (.cells #[.int .i64 1,.int .i64 yn,.int .i64 z] 39)))
    have hsz:=hB.out.lt
    clear hown hB hG
    go_wp2_with (at_builtin; refine wp_append1h _ (wr.heap.size + 1) (by simp) el_int rfl (.tmp 39) (.tmp 45) rfl _ rfl (by simp [Value.oneCell']) (w.heap.size + 1) _ k _ OW.out rfl rfl (by unfold maxLen; omega) (by omega) (by simp; omega) ?_; intro v' w5 hown5 hgrow5)
    have h1 : Hid (w5.ownsRow (w.heap.size + 1) 3 1 v' (k + 1) ((evS m ins (k + 1)).map (Value.int .i64))):=by unfold Hid; rw [HDS.out]; simpa using hown5
    have h2:=Lib.hid (BW.out.grown hgrow5 (fun e => by have:=(OW.out.lt _ e.symm).1; omega))
    have h3:=Lib.hid (gbN GW.out hgrow5 fun g e => by have:=(OW.out.lt g e).1; omega)
    clear hown5 hgrow5 OW BW GW
    go_wp2_with fail
    go_roundw
    case rel => exact ⟨k + 1,by omega,by go_num,h1,h2.out,h3.out⟩
    case measure => simp [intOf]; omega
   ·have d1 : (x == 1) = false:=by simp; omega
    by_cases h2 : x = 2
    ·subst h2
     have HD : evD m.p ins (evS m ins k) ((2 : Int),(y,z)) = y:=by simp [evD]
     rw [HD] at HDS
     clear HD hx' hsb d1 h1
     have OW:=Lib.hid (own_grow hown.out (gbA (gbR wr none) (.cells #[.int .i64 2,.int .i64 y,.int .i64 z] 39)))
     have BW:=Lib.hid (hB.out.grow (gbA (gbR wr none) (.cells #[.int .i64 2,.int .i64 y,.int .i64 z] 39)))
     have GW:=Lib.hid (gbT hG.out (gbA (gbR wr none) (.cells #[.int .i64 2,.int .i64 y,.int .i64 z] 39)))
     have hsz:=hB.out.lt
     clear hown hB hG
     go_wp2_with (at_builtin; refine wp_append1h _ (wr.heap.size + 1) (by simp) el_int rfl (.tmp 49) (.tmp 52) rfl _ rfl (by simp [Value.oneCell']) (w.heap.size + 1) _ k _ OW.out rfl rfl (by unfold maxLen; omega) (by omega) (by simp; omega) ?_; intro v' w5 hown5 hgrow5)
     have h1 : Hid (w5.ownsRow (w.heap.size + 1) 3 1 v' (k + 1) ((evS m ins (k + 1)).map (Value.int .i64))):=by unfold Hid; rw [HDS.out]; simpa using hown5
     have h2:=Lib.hid (BW.out.grown hgrow5 (fun e => by have:=(OW.out.lt _ e.symm).1; omega))
     have h3:=Lib.hid (gbN GW.out hgrow5 fun g e => by have:=(OW.out.lt g e).1; omega)
     clear hown5 hgrow5 OW BW GW
     go_wp2_with fail
     go_roundw
     case rel => exact ⟨k + 1,by omega,by go_num,h1,h2.out,h3.out⟩
     case measure => simp [intOf]; omega
    ·have d2 : (x == 2) = false:=by simp; omega
     have h34 : x = 3 ∨ x = 4:=by
      by_cases e : x = 3 ∨ x = 4
      ·exact e
      ·simp [stepB,h1,h2,e] at hsb
     obtain ⟨ya,za,rfl,rfl,hya,hza⟩:=step_ops HOK.out.ok (by rw [HN.out]; exact hlt) hx' h34
     clear hx' hsb d1 d2 h1 h2
     have r1:=evS_rng HOK.out k (by rw [HN.out]; omega) ya
     have r2:=evS_rng HOK.out k (by rw [HN.out]; omega) za
     obtain ⟨gV,cV,ev,hcV,hbV,hmV⟩:=own_form2 hown.out (by omega)
     injection ev with e1 _ e3
     subst e1; subst e3
     have cA : wr.cell? ⟨gV,ya,none⟩ = some (.int .i64 ((evS m ins k).getD ya 0)):=by
      obtain ⟨bb,ob,e1,_,r⟩:=Ints.cell (show Ints wr (some ⟨gV,0,none⟩) k (evS m ins k) from Rd.ofOwn hown.out) hya
      injection e1 with e1; injection e1 with e1 e2; subst e1; subst e2; rw [Nat.zero_add] at r; exact r
     have cB : wr.cell? ⟨gV,za,none⟩ = some (.int .i64 ((evS m ins k).getD za 0)):=by
      obtain ⟨bb,ob,e1,_,r⟩:=Ints.cell (show Ints wr (some ⟨gV,0,none⟩) k (evS m ins k) from Rd.ofOwn hown.out) hza
      injection e1 with e1; injection e1 with e1 e2; subst e1; subst e2; rw [Nat.zero_add] at r; exact r
     have HD : Hid (evD m.p ins (evS m ins k) (x,(ya : Int),(za : Int)) = if x = 3 then ((evS m ins k).getD ya 0 + (evS m ins k).getD za 0) % p else ((evS m ins k).getD ya 0 * (evS m ins k).getD za 0) % p):=by
      unfold Hid evD
      rw [HP.out]
      simp only [Int.toNat_natCast]
      rcases h34 with rfl | rfl <;> rfl
     rw [HD.out] at HDS
     clear HD
     obtain ⟨da,hda⟩ : ∃ d,(evS m ins k).getD ya 0 = d:=⟨_,rfl⟩
     obtain ⟨db,hdb⟩ : ∃ d,(evS m ins k).getD za 0 = d:=⟨_,rfl⟩
     rw [hda] at r1 cA HDS
     rw [hdb] at r2 cB HDS
     rw [HP.out] at r1 r2
     have EA:=Lib.hid (elemB_mk (p:=p) (by rw [← HP.out]; exact HOK.out.ok.fld) r1.1 r1.2)
     have EB:=Lib.hid (elemB_mk (p:=p) (by rw [← HP.out]; exact HOK.out.ok.fld) r2.1 r2.2)
     clear hda hdb r1 r2
     have hia : (ya : Int) < (k : Int):=by omega
     have hib : (za : Int) < (k : Int):=by omega
     have B0:=hB.out.cell 0
     simp at B0
     obtain ⟨wz,hwz⟩ : ∃ wz,wr.alloc (.cells #[.int .i64 x,.int .i64 ya,.int .i64 za] 39) = wz:=⟨_,rfl⟩
     have gz : wr.grownBy wz none:=by rw [← hwz]; exact gbA (gbR wr none) _
     have L:=Blk.new wr 39 #[.int .i64 x,.int .i64 ya,.int .i64 za]
     rw [hwz] at L
     have CA:=Lib.hid (gbk gz cA)
     have CB:=Lib.hid (gbk gz cB)
     have CP:=Lib.hid (gbk gz B0)
     have CL1:=Lib.hid (show wz.cell? ⟨wr.heap.size,1,none⟩ = some (.int .i64 ya) from L.cell 1)
     have CL2:=Lib.hid (show wz.cell? ⟨wr.heap.size,2,none⟩ = some (.int .i64 za) from L.cell 2)
     have OW:=Lib.hid (own_grow hown.out gz)
     have BW:=Lib.hid (hB.out.grow gz)
     have GW:=Lib.hid (gbT hG.out gz)
     have hgV:=(hown.out.lt gV rfl)
     have hgVl:=hgV.1
     have hgVu:=hgV.2
     have hzs:=gz.size
     have HBlt:=Lib.hid hB.out.lt
     clear cA cB B0 gz L hown hB hG hgV
     rcases h34 with rfl | rfl
     ·rw [if_pos rfl] at HDS
      have hF:=fun w => implFAdd_yes p da db w EA.out EB.out
      obtain ⟨r,hr⟩ : ∃ r,(da + db) % p = r:=⟨_,rfl⟩
      rw [hr] at hF HDS
      have HF':=Lib.hid hF
      clear hF hr
      have HWZ:=Lib.hid hwz
      clear hwz
      go_wp2_with fail
      rw [HWZ.out]
      refine region_reg5 [onT 56 (isV (.slice (some ⟨gV,0,none⟩) k sc)),onT 57 (isV (.pointer (some ⟨w.heap.size,0,none⟩))),onT 58 (isV (.int .i64 p)),onT 59 (isV (.slice (some ⟨gV,0,none⟩) k sc)),onT 60 (isV (.pointer (some ⟨wr.heap.size,1,none⟩))),onT 61 (isV (.int .i64 ya)),onT 62 (isV (.pointer (some ⟨gV,ya,none⟩))),onT 63 (isV (.int .i64 da)),onT 64 (isV (.slice (some ⟨gV,0,none⟩) k sc)),onT 65 (isV (.pointer (some ⟨wr.heap.size,2,none⟩))),onT 66 (isV (.int .i64 za)),onT 67 (isV (.pointer (some ⟨gV,za,none⟩))),onT 68 (isV (.int .i64 db)),onT 69 (isV (.int .i64 r)),onT 70 (lit1 wz.heap.size (.int .i64 r)),onT 71 (rowL (w.heap.size + 1) (k + 1) ((evS m ins (k + 1)).map (Value.int .i64))),eqF 6 71] 15 gV (by kernel_rfl) (by kernel_rfl) (by kernel_rfl) (by simp [stablesF,stableF_on,isV_st,rowL_st,lit1_st,eqF_st]) ?_ ?_
      ·simp only [hops5,and_true]
       refine ⟨?_, ?_, ?_, ?_, ?_, ?_, ?_, ?_, ?_, ?_, ?_, ?_, ?_, ?_, ?_, ?_, ?_⟩
       rotate_left 15
       ·intro f w4 hG pre old hd
        have hg4:=pre (by kernel_rfl)
        simp [depsF,bindE,List.filter_cons,bd_data,bd_chain,bd_guard,bd_phase,bd_text,bd_gc,fAt,onT_at,eqF_at,isV] at hd
        obtain ⟨h56,⟨g1,e1,o1⟩,_⟩:=hd
        rw [e1] at o1
        have hs4:=hg4.size
        have O4:=own_grow (own_grow OW.out (gbD (gbR wz none))) hg4
        simp [puts,dsts,Act.put,h56,e1]
        refine wp_appendS w4 el_int rfl (.tmp 56) (.tmp 70) rfl (w.heap.size + 1) _ k _ O4 rfl (some ⟨g1,0,none⟩) 1 1 _ rfl (Rd.ofOwn o1) (by simp [Value.oneCell']) (by unfold maxLen; omega) (by omega) (by simp at hs4; omega) ?_
        intro v' w5 o5 g5
        obtain ⟨An,cn,rfl,_,_⟩:=own_form o5
        refine ⟨_,rfl,⟨An,cn,rfl,by rw [HDS.out]; simpa [upd_some,fAt,onT] using o5⟩,Or.inr ⟨Chg.of g5 fun x hx => by simp [Value.ownBlock] at hx; simp [hx], ?_⟩⟩
        simp [keeps,onT_at,eqF_at,isV]
        intro hk1
        obtain ⟨g2,e2,o2⟩:=hk1
        refine ⟨g2,e2,own_grown o2 g5 (.inr ?_)⟩
        rw [e2]
        have:=(o2.lt g2 (by rw [e2]; rfl)).1
        simp [Value.ownBlock]
        omega
       ·intro f w4 hG pre old hd
        simp [depsF,bindE,List.filter_cons,bd_data,bd_chain,bd_guard,bd_phase,bd_text,bd_gc,fAt,onT_at,eqF_at,isV] at hd
        obtain ⟨⟨An,cn,e71,_⟩,_⟩:=hd
        simp [puts,dsts,Act.put,e71]
        go_wp2_with fail
        exact ⟨_,rfl,by simp [fAt,eqF_at,upd_some,e71],Or.inl (gbR _ _)⟩
       all_goals
        intro f w4 hG pre old hd
        have hg4:=pre (by kernel_rfl)
        have hs4:=hg4.size
        have kA_:=gbk hg4 (kD CA.out)
        have kB_:=gbk hg4 (kD CB.out)
        have kP_:=gbk hg4 (kD CP.out)
        have k1_:=gbk hg4 (kD CL1.out)
        have k2_:=gbk hg4 (kD CL2.out)
        have h6:=old 6 (by kernel_rfl) (by simp [dsts])
        simp at h6
        simp [depsF,bindE,List.filter_cons,bd_data,bd_chain,bd_guard,bd_phase,bd_text,bd_gc,fAt,onT_at,eqF_at,isV] at hd
        first | simp [puts,dsts,Act.put,hd,h6] | simp [puts,dsts,Act.put,h6]
        go_wp2_with (go_at_call 88; refine (HF'.out _).mono ?_; rintro e w5 ⟨rfl,hw⟩)
        first
         | exact ⟨_,rfl,by simp [fAt,onT_at,eqF_at,upd_some,isV],Or.inl (gbR _ _)⟩
         | exact ⟨_,rfl,by simp [fAt,onT_at,eqF_at,upd_some,isV],Or.inl hw⟩
         | exact ⟨_,rfl,⟨_,rfl,own_litI hs4 _ _⟩,Or.inl (gbA (gbR _ _) _)⟩
      ·intro f w4 hG hd
       simp [knowsF,onT_at,eqF_at,isV] at hd
       obtain ⟨p0,p1,p2,p3,p4,p5,p6,p7,p8,p9,p10,p11,p12,p13,⟨g1,e70,_⟩,⟨An,cn,e71,o71⟩,e6⟩:=hd
       rw [e71] at o71 e6
       have hC : Chg (fun b => b = gV) wz w4:=(Chg.of (gbD (gbR wz none)) (fun _ h => by cases h)).trans hG
       have B5:=Lib.hid (blk_chg BW.out hC (by have:=HBlt.out; omega))
       have G5:=Lib.hid (Chg.new GW.out hC (fun i hi => by omega))
       have O5:=Lib.hid o71
       clear hC hG o71 OW BW GW
       simp only [puts,dsts,Act.put,p0,p1,p2,p3,p4,p5,p6,p7,p8,p9,p10,p11,p12,p13,e70,e71,e6,List.filterMap_cons,List.filterMap_nil,List.setIfInBounds_toArray,List.set_cons_zero,List.set_cons_succ]
       clear p0 p1 p2 p3 p4 p5 p6 p7 p8 p9 p10 p11 p12 p13 e70 e71 e6
       go_wp2_with fail
       go_roundw
       case rel => exact ⟨k + 1,by omega,by go_num,O5.out,B5.out,G5.out⟩
       case measure => simp [intOf]; omega
     ·rw [if_neg (by decide)] at HDS
      have hF:=fun w => implFMul_yes p da db w EA.out EB.out
      obtain ⟨r,hr⟩ : ∃ r,(da * db) % p = r:=⟨_,rfl⟩
      rw [hr] at hF HDS
      have HF':=Lib.hid hF
      clear hF hr
      have HWZ:=Lib.hid hwz
      clear hwz
      go_wp2_with fail
      rw [HWZ.out]
      refine region_reg5 [onT 74 (isV (.slice (some ⟨gV,0,none⟩) k sc)),onT 75 (isV (.pointer (some ⟨w.heap.size,0,none⟩))),onT 76 (isV (.int .i64 p)),onT 77 (isV (.slice (some ⟨gV,0,none⟩) k sc)),onT 78 (isV (.pointer (some ⟨wr.heap.size,1,none⟩))),onT 79 (isV (.int .i64 ya)),onT 80 (isV (.pointer (some ⟨gV,ya,none⟩))),onT 81 (isV (.int .i64 da)),onT 82 (isV (.slice (some ⟨gV,0,none⟩) k sc)),onT 83 (isV (.pointer (some ⟨wr.heap.size,2,none⟩))),onT 84 (isV (.int .i64 za)),onT 85 (isV (.pointer (some ⟨gV,za,none⟩))),onT 86 (isV (.int .i64 db)),onT 87 (isV (.int .i64 r)),onT 88 (lit1 wz.heap.size (.int .i64 r)),onT 89 (rowL (w.heap.size + 1) (k + 1) ((evS m ins (k + 1)).map (Value.int .i64))),eqF 6 89] 15 gV (by kernel_rfl) (by kernel_rfl) (by kernel_rfl) (by simp [stablesF,stableF_on,isV_st,rowL_st,lit1_st,eqF_st]) ?_ ?_
      ·simp only [hops5,and_true]
       refine ⟨?_, ?_, ?_, ?_, ?_, ?_, ?_, ?_, ?_, ?_, ?_, ?_, ?_, ?_, ?_, ?_, ?_⟩
       rotate_left 15
       ·intro f w4 hG pre old hd
        have hg4:=pre (by kernel_rfl)
        simp [depsF,bindE,List.filter_cons,bd_data,bd_chain,bd_guard,bd_phase,bd_text,bd_gc,fAt,onT_at,eqF_at,isV] at hd
        obtain ⟨h56,⟨g1,e1,o1⟩,_⟩:=hd
        rw [e1] at o1
        have hs4:=hg4.size
        have O4:=own_grow (own_grow OW.out (gbD (gbR wz none))) hg4
        simp [puts,dsts,Act.put,h56,e1]
        refine wp_appendS w4 el_int rfl (.tmp 74) (.tmp 88) rfl (w.heap.size + 1) _ k _ O4 rfl (some ⟨g1,0,none⟩) 1 1 _ rfl (Rd.ofOwn o1) (by simp [Value.oneCell']) (by unfold maxLen; omega) (by omega) (by simp at hs4; omega) ?_
        intro v' w5 o5 g5
        obtain ⟨An,cn,rfl,_,_⟩:=own_form o5
        refine ⟨_,rfl,⟨An,cn,rfl,by rw [HDS.out]; simpa [upd_some,fAt,onT] using o5⟩,Or.inr ⟨Chg.of g5 fun x hx => by simp [Value.ownBlock] at hx; simp [hx], ?_⟩⟩
        simp [keeps,onT_at,eqF_at,isV]
        intro hk1
        obtain ⟨g2,e2,o2⟩:=hk1
        refine ⟨g2,e2,own_grown o2 g5 (.inr ?_)⟩
        rw [e2]
        have:=(o2.lt g2 (by rw [e2]; rfl)).1
        simp [Value.ownBlock]
        omega
       ·intro f w4 hG pre old hd
        simp [depsF,bindE,List.filter_cons,bd_data,bd_chain,bd_guard,bd_phase,bd_text,bd_gc,fAt,onT_at,eqF_at,isV] at hd
        obtain ⟨⟨An,cn,e71,_⟩,_⟩:=hd
        simp [puts,dsts,Act.put,e71]
        go_wp2_with fail
        exact ⟨_,rfl,by simp [fAt,eqF_at,upd_some,e71],Or.inl (gbR _ _)⟩
       all_goals
        intro f w4 hG pre old hd
        have hg4:=pre (by kernel_rfl)
        have hs4:=hg4.size
        have kA_:=gbk hg4 (kD CA.out)
        have kB_:=gbk hg4 (kD CB.out)
        have kP_:=gbk hg4 (kD CP.out)
        have k1_:=gbk hg4 (kD CL1.out)
        have k2_:=gbk hg4 (kD CL2.out)
        have h6:=old 6 (by kernel_rfl) (by simp [dsts])
        simp at h6
        simp [depsF,bindE,List.filter_cons,bd_data,bd_chain,bd_guard,bd_phase,bd_text,bd_gc,fAt,onT_at,eqF_at,isV] at hd
        first | simp [puts,dsts,Act.put,hd,h6] | simp [puts,dsts,Act.put,h6]
        go_wp2_with (go_at_call 89; refine (HF'.out _).mono ?_; rintro e w5 ⟨rfl,hw⟩)
        first
         | exact ⟨_,rfl,by simp [fAt,onT_at,eqF_at,upd_some,isV],Or.inl (gbR _ _)⟩
         | exact ⟨_,rfl,by simp [fAt,onT_at,eqF_at,upd_some,isV],Or.inl hw⟩
         | exact ⟨_,rfl,⟨_,rfl,own_litI hs4 _ _⟩,Or.inl (gbA (gbR _ _) _)⟩
      ·intro f w4 hG hd
       simp [knowsF,onT_at,eqF_at,isV] at hd
       obtain ⟨p0,p1,p2,p3,p4,p5,p6,p7,p8,p9,p10,p11,p12,p13,⟨g1,e70,_⟩,⟨An,cn,e71,o71⟩,e6⟩:=hd
       rw [e71] at o71 e6
       have hC : Chg (fun b => b = gV) wz w4:=(Chg.of (gbD (gbR wz none)) (fun _ h => by cases h)).trans hG
       have B5:=Lib.hid (blk_chg BW.out hC (by have:=HBlt.out; omega))
       have G5:=Lib.hid (Chg.new GW.out hC (fun i hi => by omega))
       have O5:=Lib.hid o71
       clear hC hG o71 OW BW GW
       simp only [puts,dsts,Act.put,p0,p1,p2,p3,p4,p5,p6,p7,p8,p9,p10,p11,p12,p13,e70,e71,e6,List.filterMap_cons,List.filterMap_nil,List.setIfInBounds_toArray,List.set_cons_zero,List.set_cons_succ]
       clear p0 p1 p2 p3 p4 p5 p6 p7 p8 p9 p10 p11 p12 p13 e70 e71 e6
       go_wp2_with fail
       go_roundw
       case rel => exact ⟨k + 1,by omega,by go_num,O5.out,B5.out,G5.out⟩
       case measure => simp [intOf]; omega
  ·have hkn : k = n:=by omega
   subst hkn
   obtain ⟨S,sc,rfl,_,_⟩:=own_form hown.out
   have b2:=hB.out.cell 2
   simp at b2
   have b2':=kA b2 (.cells #[] 3)
   have hBu:=hB.out.lt
   have OW:=Lib.hid hown.out
   have GW:=Lib.hid hG.out
   have O9:=Lib.hid (World.ownsRow_made (e:=3) (size:=1) (base:=wr.heap.size) wr #[] 0 (Nat.le_refl _) (by simp) rfl)
   clear hown hB hG
   go_wp2_with fail
   clear b2 b2' hBu
   obtain ⟨wo,rfl⟩ : ∃ wo : World,wo = wr:=⟨_,rfl⟩
   go_loopw [9,95] (fun s i wi => ∃ j : Nat,j ≤ q ∧ i = .int .i64 j ∧ Hid (wi.ownsRow wo.heap.size 3 1 s j ((evOut m ins j).map (Value.int .i64))) ∧ Hid (wo.grownBy wi none)) (fun _ i _ => q - (intOf i).toNat)
   case atStart => exact ⟨0,Nat.zero_le _,rfl,by unfold Hid; have o:=O9.out; simpa [evOut] using o,gbA (gbR _ _) _⟩
   case round =>
    clear O9
    obtain ⟨j,hj,rfl,hown,hG⟩:=hrel
    by_cases hlt2 : j < q
    ·obtain ⟨b,o,rfl,hb,cz⟩:=Ints.cell (Ints.grow HO.out (gbT GW.out hG.out)) hlt2
     have i1 : (j : Int) < (q : Int):=by omega
     have HDS:=Lib.hid (evOut_succ m ins j (by rw [HQ.out]; exact hlt2))
     have hz : inB (m.outs.getD j 0) 0 (m.st.length - 1) = true:=HOK.out.ok.outs _ (by rw [getI _ _ (by rw [HQ.out]; exact hlt2)]; exact List.getElem_mem _)
     rw [inB_iff,HN.out] at hz
     rw [HN.out] at HDS
     generalize m.outs.getD j 0 = z at *
     obtain ⟨zn,rfl⟩:=Int.eq_ofNat_of_zero_le hz.1
     have hzn : zn < k:=by omega
     obtain ⟨bb,ob,rfl,_,r1⟩:=Ints.cell (show Ints wr S k (evS m ins k) from Ints.grow (Rd.ofOwn OW.out) hG.out) hzn
     rw [Int.toNat_natCast] at HDS
     generalize (evS m ins k).getD zn 0 = d at *
     have hzi : (zn : Int) < (k : Int):=by omega
     have O1:=Lib.hid hown.out
     have G1:=Lib.hid hG.out
     have hsz:=hG.out.size
     obtain ⟨S2,sc2,rfl,_,_⟩:=own_form hown.out
     clear hown hG hz
     go_wp2_with (at_builtin; refine wp_append1h _ wr.heap.size rfl el_int rfl (.tmp 99) (.tmp 104) rfl _ rfl (by simp [Value.oneCell']) wo.heap.size _ j _ O1.out rfl rfl (by unfold maxLen; omega) (by omega) (by omega) ?_; intro v' w5 hown5 hgrow5)
     have h1 : Hid (w5.ownsRow wo.heap.size 3 1 v' (j + 1) ((evOut m ins (j + 1)).map (Value.int .i64))):=by unfold Hid; rw [HDS.out]; simpa using hown5
     have h3:=Lib.hid (gbN G1.out hgrow5 fun g e => (O1.out.lt g e).1)
     clear hown5 hgrow5 O1 G1
     go_wp2_with fail
     go_roundw
     case rel => exact ⟨j + 1,by omega,by go_num,h1,h3.out⟩
     case measure => simp [intOf]; omega
    ·have hjn : j = q:=by omega
     subst hjn
     have O1:=Lib.hid hown.out
     have G1:=Lib.hid hG.out
     clear hown hG
     go_wp2_with fail
     go_ret2
     exact EvJ.yes HOK.out HQ.out.symm (own_base O1.out GW.out.size) (gbT GW.out G1.out)
theorem implEvalArith_c (m : AM) (v : Value) (A : Option Addr) (n c : Nat) (ins : List Int) (w : World) (h : AggR w (carith m) v) (wf : m.wf) (hi : Ints w A n ins) (hn : n ≤ 1048576) (ho : m.outs.length ≤ 1048576) :
  Calls Try.prog 29 #[v,.slice A n c] w (EvJ m ins w):=by
 by_cases hok : EvOk m ins
 ·have : n = 60:=by rw [← hi.len,hok.len]
  subst this
  exact implEvalArith_yes m v A c ins w h wf hi hok ho
 ·exact implEvalArith_no m v A n c ins w h wf hi hn hok
end Go.Proofs.Ytapljpcpmdlppaa
