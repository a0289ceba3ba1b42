/-
  l28Errors,DrawCheat of the reference: a circuit,inputs,a tape and errors.
-/
import Derived.Test.YtapljpcpmdlppaaMgFnCheated43
import Derived.Test.YtapljpcpmdlppaaMgFnCheated0
import Derived.Test.YtapljpcpmdlppaaMgFnCheated1
import Derived.Deep.DeepCutAuto
import Derived.Test.YtapljpcpmdlppaaMgFnCheated26
namespace Go.Proofs.Ytapljpcpmdlppaa
open Go.RowKit
set_option linter.unusedVariables false
set_option linter.unusedSimpArgs false
set_option maxHeartbeats 2000000 in
theorem l28Errors_c (w : World) (p : Int) (hp0 : 1 ≤ p) (hp : p ≤ 101) (g : Nat) (A : Option Addr) (n c : Nat) (bs : List Int) (hc : Cur w g A n c bs) :
    Calls Try.prog 150 #[.pointer (some ⟨g,0,none⟩),.int .i64 p] w fun e w' => ∃ (v : Value) (qs : List Int),e = .returned v ∧ w'.ownsRow w.heap.size 3 1 v qs.length (qs.map (Value.int .i64)) ∧ qs.length ≤ 8 ∧ (∀ q ∈ qs,0 ≤ q ∧ q < p) ∧ Cur w' g A n c bs ∧ w.grownBy w' (some g):=by
  have hgl:=hc.lt
  have HC:=Lib.hid (hc.grow (gbA (gbR w none) (.cells #[] 3)))
  have HR:=Lib.hid (World.ownsRow_made (e:=3) (size:=1) (base:=w.heap.size) w #[] 0 (by omega) (by simp) rfl)
  have HG : Hid (w.grownBy (w.alloc (.cells #[] 3)) (some g)):=Lib.hid (gbW (gbA (gbR w none) _))
  have HL : Hid (∀ y,w.heap.size ≤ y → 0 < n → ∀ a,A = some a → a.block ≠ y):=Lib.hid (fun y hy => hc.old hy)
  clear hc
  go_enter Try.func150,Try.ntmps150
  go_wp2_with fail
  go_loopw [5,6] (fun s i wr => ∃ (k : Nat) (qs : List Int),k ≤ 8 ∧ i = .int .i64 k ∧ Hid (wr.ownsRow w.heap.size 3 1 s k (qs.map (Value.int .i64))) ∧ Hid (qs.length = k ∧ ∀ q ∈ qs,0 ≤ q ∧ q < p) ∧ Hid (Cur wr g A n c bs) ∧ Hid (w.grownBy wr (some g))) (fun _ i _ => 8 - (intOf i).toNat)
  case atStart => exact ⟨0,[],by omega,rfl,HR.out,⟨rfl,by simp⟩,HC.out,HG.out⟩
  case round =>
    obtain ⟨k,qs,hk,rfl,hown,hqs,hcur,hg⟩:=hrel
    go_wp2_with fail
    refine (l01Below_c _ 8 (by omega) _ A n c bs hcur.out).mono ?_
    rintro e w1 ⟨y,rfl,hy0,hy1,hc1,hg1⟩
    have hy1:=hy1 (by omega)
    have hown1:=Lib.hid (own_grown hown.out hg1 (by
      cases hb : Value.ownBlock _ with
      | none => exact .inl rfl
      | some b => refine .inr fun e => ?_
                  have:=(hown.out.lt b hb).1
                  injection e with e
                  omega))
    have hcur1:=Lib.hid hc1
    have hgg:=Lib.hid (gbT hg.out hg1)
    clear hown hcur hg hc1 hg1
    have hown:=hown1
    have hcur:=hcur1
    have hg:=hgg
    clear hown1 hcur1 hgg
    by_cases hlt : (k : Int) < y
    · go_wp2_with fail
      refine (l01Once_c _ 3 (by omega) g A n c bs hcur.out).mono ?_
      rintro e w2 ⟨b,rfl,hc2,hg2⟩
      cases b
      ·
        have hown2:=own_grown hown.out hg2 (by
          cases hb : Value.ownBlock _ with
          | none => exact .inl rfl
          | some b => refine .inr fun e => ?_
                      have:=(hown.out.lt b hb).1
                      injection e with e
                      omega)
        have HC2:=Lib.hid hc2
        have HG2:=Lib.hid (gbT hg.out hg2)
        have hw2:=hg2.size
        have hw:=hg.out.size
        clear hc2 hg2 hown hcur hg
        go_wp2_with (at_builtin; refine wp_append1 w2 el_int rfl (.tmp 23) (.tmp 24) rfl _ rfl (by simp [Value.oneCell']) w.heap.size _ k _ hown2 rfl rfl (by unfold maxLen; omega) (by omega) (by omega) ?_; intro v' w3 hown3 hgrow)
        have h1:=Lib.hid (show w3.ownsRow w.heap.size 3 1 v' (k + 1) ((qs ++ [0]).map (Value.int .i64)) by simpa using hown3)
        have h2:=Lib.hid (gbNN HG2.out hgrow fun y e => .inl (hown2.lt y e).1)
        have h3:=Lib.hid (show Cur w3 g A n c bs by
          obtain ⟨⟨i,hh,hi,hb⟩,k2,k3,k4,k5⟩:=HC2.out
          have hne : some g ≠ Value.ownBlock _:=fun e => by have:=(hown2.lt _ e.symm).1; omega
          exact ⟨⟨i,hh,hi,hb.grown hgrow hne⟩,k2.grown' hgrow (fun hn a ha e => by have:=(hown2.lt _ e.symm).1; exact HL.out a.block this hn a ha rfl),k3,k4,k5⟩)
        clear hown3 hgrow hown2
        go_wp2_with fail
        go_roundw
        case rel => exact ⟨k + 1,qs ++ [0],by omega,by go_num,h1.out,⟨by simp [hqs.out.1],fun q hq => by
          rcases List.mem_append.1 hq with hq | hq
          · exact hqs.out.2 q hq
          · simp at hq; subst hq; exact ⟨Int.le_refl _,by omega⟩⟩,h3.out,h2.out⟩
        case measure => simp [intOf]; omega
      · have hown1:=Lib.hid (own_grown hown.out hg2 (by
          cases hb : Value.ownBlock _ with
          | none => exact .inl rfl
          | some b => refine .inr fun e => ?_
                      have:=(hown.out.lt b hb).1
                      injection e with e
                      omega))
        have hcur1:=Lib.hid hc2
        have hgg:=Lib.hid (gbT hg.out hg2)
        clear hown hcur hg hc2 hg2
        have hown:=hown1
        have hcur:=hcur1
        have hg:=hgg
        clear hown1 hcur1 hgg
        have hp1 : ¬ p < 1:=by omega
        go_wp2_with fail
        refine (l01Below_c _ p (by omega) g A n c bs hcur.out).mono ?_
        rintro e w2 ⟨x,rfl,hx0,hx1,hc2,hg2⟩
        have hx1:=hx1 hp0
        have hown2:=own_grown hown.out hg2 (by
          cases hb : Value.ownBlock _ with
          | none => exact .inl rfl
          | some b => refine .inr fun e => ?_
                      have:=(hown.out.lt b hb).1
                      injection e with e
                      omega)
        have HC2:=Lib.hid hc2
        have HG2:=Lib.hid (gbT hg.out hg2)
        have hw2:=hg2.size
        have hw:=hg.out.size
        clear hc2 hg2 hown hcur hg
        go_wp2_with (at_builtin; refine wp_append1 w2 el_int rfl (.tmp 16) (.tmp 21) rfl _ rfl (by simp [Value.oneCell']) w.heap.size _ k _ hown2 rfl rfl (by unfold maxLen; omega) (by omega) (by omega) ?_; intro v' w3 hown3 hgrow)
        have h1:=Lib.hid (show w3.ownsRow w.heap.size 3 1 v' (k + 1) ((qs ++ [x]).map (Value.int .i64)) by simpa using hown3)
        have h2:=Lib.hid (gbNN HG2.out hgrow fun y e => .inl (hown2.lt y e).1)
        have h3:=Lib.hid (show Cur w3 g A n c bs by
          obtain ⟨⟨i,hh,hi,hb⟩,k2,k3,k4,k5⟩:=HC2.out
          have hne : some g ≠ Value.ownBlock _:=fun e => by have:=(hown2.lt _ e.symm).1; omega
          exact ⟨⟨i,hh,hi,hb.grown hgrow hne⟩,k2.grown' hgrow (fun hn a ha e => by have:=(hown2.lt _ e.symm).1; exact HL.out a.block this hn a ha rfl),k3,k4,k5⟩)
        clear hown3 hgrow hown2
        go_wp2_with fail
        go_roundw
        case rel => exact ⟨k + 1,qs ++ [x],by omega,by go_num,h1.out,⟨by simp [hqs.out.1],fun q hq => by
          rcases List.mem_append.1 hq with hq | hq
          · exact hqs.out.2 q hq
          · simp at hq; subst hq; exact ⟨hx0,hx1⟩⟩,h3.out,h2.out⟩
        case measure => simp [intOf]; omega
    · have hge : y ≤ (k : Int):=by omega
      go_wp2_with fail
      refine (l01Once_c _ 2 (by omega) g A n c bs hcur.out).mono ?_
      rintro e w2 ⟨b,rfl,hc2,hg2⟩
      have hown1:=Lib.hid (own_grown hown.out hg2 (by
        cases hb : Value.ownBlock _ with
        | none => exact .inl rfl
        | some b => refine .inr fun e => ?_
                    have:=(hown.out.lt b hb).1
                    injection e with e
                    omega))
      have hcur1:=Lib.hid hc2
      have hgg:=Lib.hid (gbT hg.out hg2)
      have hz2:=hgg.out.size
      clear hown hcur hg hc2 hg2
      cases b
      · go_wp2_with fail
        go_ret
        exact ⟨_,qs,rfl,by rw [hqs.out.1]; exact hown1.out,by rw [hqs.out.1]; exact hk,hqs.out.2,hcur1.out,hgg.out⟩
      · go_wp2_with fail
        go_ret
        exact ⟨_,[],rfl,World.ownsRow_made (e:=3) (size:=1) (base:=w.heap.size) w2 #[] 0 hz2 (by simp) rfl,by simp,by simp,hcur1.out.grow (gbA (gbR _ _) _),gbT hgg.out (gbW (gbA (gbR _ _) _))⟩
def errR (lo P : Nat) (v : Value) (w : World) : Prop:=∃ (R : Option Addr) (cr : Nat) (es : List Int),v = .slice R es.length cr ∧ es.length ≤ cr ∧ es.length ≤ 8 ∧ (∀ x ∈ es,0 ≤ x ∧ x < (P : Int)) ∧ w.ownsRow lo 3 1 (.slice R es.length cr) es.length (es.map (Value.int .i64))
theorem errR.chg {lo P : Nat} {v : Value} {w w' : World} {S : Nat → Prop} (h : errR lo P v w) (k : Chg S w w') (hS : ∀ y,S y → y < lo) : errR lo P v w':=by
  obtain ⟨R,cr,es,h1,h2,h3,h4,h5⟩:=h
  exact ⟨R,cr,es,h1,h2,h3,h4,Chg.own h5 k (fun y hy hs => by have:=(h5.lt y hy).1; have:=hS y hs; omega)⟩
def S29 (wq : World) (g r P : Nat) (A : Option Addr) (n c : Nat) (bs : List Int) (c3 c5 : Array Value) (v : Value) (w' : World) : Prop :=
  errR wq.heap.size P v w' ∧ Cur w' g A n c bs ∧ Blk w' r 30 c3 ∧ Blk w' (r + 1) 75 c5 ∧ Chg (fun y => y = g ∨ y = r ∨ y = r + 1) wq.drew w'
theorem ret_ctct {P : Program} {fn : Func} {R : Ending → World → Prop} {a : Act} {w : World} {p q r s : Tmp} {T U : TypeId} {g m n n' : Nat} {cs ds : Array Value} (hh : fn.results = #[.cell p T,.tmp q,.cell r U,.tmp s]) (hp : a.tmps.getD p undef = .pointer (some ⟨g,0,none⟩)) (S : St P T n) (B : Blk w g T cs) (hn : cs.size = n)
    (hq : a.tmps.getD r undef = .pointer (some ⟨m,0,none⟩)) (S' : St P U n') (B' : Blk w m U ds) (hn' : ds.size = n')
    (hd : a.defers = []) (hR : R (.returned (.tuple #[.agg cs,a.tmps.getD q undef,.agg ds,a.tmps.getD s undef])) w) : bodyPost P fn R .ret a w:=by
  refine bodyPost_ret (v:=.tuple #[.agg cs,a.tmps.getD q undef,.agg ds,a.tmps.getD s undef]) ?_ hd hR
  have hp' : a.tmps[p]?.getD undef = .pointer (some ⟨g,0,none⟩):=by simpa using hp
  have hq' : a.tmps[r]?.getD undef = .pointer (some ⟨m,0,none⟩):=by simpa using hq
  simp [results,hh,hp',hq',asAddr,run_row S B hn,run_row S' B' hn']
def DrawHJ (w : World) (e : Ending) (w' : World) : Prop :=
  ∃ (A1 A2 I R : Option Addr) (n1 s1 n2 s2 ci cr : Nat) (mst : List Stp) (mou ins es : List Int) (P s a : Nat),
    e = .returned (.tuple #[.agg #[.int .i64 P,.slice A1 n1 s1,.slice A2 n2 s2],.slice I 60 ci,.agg #[.int .i64 s,.int .i64 a],.slice R es.length cr]) ∧
    AOk ⟨(P : Int),mst,mou⟩ ∧ ins.length = 60 ∧ elemsB (P : Int) ins = true ∧ elemsB (P : Int) es = true ∧ es.length ≤ 8 ∧ es.length ≤ cr ∧ mou.length ≤ 3 ∧ s < 4294967296 ∧ a < 50 ∧
    AggR w' (carith ⟨(P : Int),mst,mou⟩) (.agg #[.int .i64 P,.slice A1 n1 s1,.slice A2 n2 s2]) ∧ Ints w' I 60 ins ∧ 60 ≤ ci ∧ (cints es).rd w' (.slice R es.length cr) ∧ w.grownBy w' none
set_option maxHeartbeats 2000000 in
set_option maxRecDepth 1000000 in
theorem DrawCheat_c (w : World) (A : Option Addr) (n c : Nat) (bs : List Int) (h : BytesIn w A n bs) :
    Calls Try.prog 76 #[.slice A n c] w (DrawHJ w):=by
  have H:=Lib.hid h
  clear h
  go_enter Try.func76,Try.ntmps76
  go_wp2_with fail
  refine (l01New_c _ A n c bs (H.out.grow (gbA (gbA (gbR _ _) _) _))).mono ?_
  rintro e w1 ⟨rfl,hc1,hg1,hz1⟩
  have HC:=Lib.hid (show Cur w1 (w.heap.size + 2) A n c bs by simpa using hc1)
  have B3:=Lib.hid (((Blk.new w 30 #[.int .i64 0,.slice none 0 0,.slice none 0 0]).grow (gbA (gbR _ _) (.cells #[.int .i64 0,.int .i64 0] 75))).grow hg1)
  have B5:=Lib.hid ((Blk.new' (w.alloc (.cells #[.int .i64 0,.slice none 0 0,.slice none 0 0] 30)) 75 #[.int .i64 0,.int .i64 0] (w.heap.size + 1) (by simp)).grow hg1)
  have G1:=Lib.hid (gbT (gbA (gbA (gbR w none) (.cells #[.int .i64 0,.slice none 0 0,.slice none 0 0] 30)) (.cells #[.int .i64 0,.int .i64 0] 75)) hg1)
  clear hc1 hg1 hz1
  go_wp2_with fail
  refine (l28Case_c _ (w.heap.size + 2) A n c bs HC.out).mono ?_
  rintro e w2 ⟨KA,A1,A2,I,kc,n1,s1,n2,s2,ci,k,m,ins,P,s,a,rfl,h1,h2,h3,h4,h5,h6,h7,⟨F,h8,h8'⟩,h9,h10,hcu,hg⟩
  obtain ⟨mp,mst,mou⟩:=m
  have hmp : mp = (P : Int):=h1.pp.symm.trans h1.pn
  subst hmp
  have h4 : mou.length ≤ 3:=h4
  have hz1:=G1.out.size
  have hzz : w.heap.size + 3 ≤ w1.heap.size:=by have:=HC.out.lt; omega
  obtain ⟨r,hr⟩ : ∃ x,w.heap.size = x:=⟨_,rfl⟩
  rw [show w.heap.size + 2 = r + 1 + 1 by omega] at hcu hg
  have E3:=Lib.hid (B3.out.grown hg (by simp; omega))
  have E5:=Lib.hid (B5.out.grown hg (by simp; omega))
  have G2:=Lib.hid (gbN G1.out hg (fun b e => by injection e with e; omega))
  have HF:=Lib.hid h1
  have H8:=Lib.hid h8
  have H8':=Lib.hid h8'
  have H9:=Lib.hid h9
  have hsz2:=hg.size
  rw [hr] at E3 E5
  obtain ⟨wu,hwu⟩ : ∃ x : World,((w2.alloc (.cells #[.int .i64 k.p,.slice KA k.al.length kc] 65)).alloc (.cells #[.int .i64 P,.slice A1 n1 s1,.slice A2 n2 s2] 30)).alloc (.cells #[.int .i64 s,.int .i64 a] 75) = x:=⟨_,rfl⟩
  have hgu : w2.grownBy wu none:=by rw [← hwu]; exact gbA (gbA (gbA (gbR _ _) _) _) _
  have Q8 : Hid (Blk wu (w2.heap.size + 1) 30 #[.int .i64 P,.slice A1 n1 s1,.slice A2 n2 s2]):=by rw [← hwu]; exact Lib.hid ((Blk.new' _ _ _ _ (by simp)).grow (gbA (gbR _ _) _))
  have Q10 : Hid (Blk wu (w2.heap.size + 1 + 1) 75 #[.int .i64 s,.int .i64 a]):=by rw [← hwu]; exact Lib.hid (Blk.new' _ _ _ _ (by simp))
  have QC:=Lib.hid (hcu.grow hgu)
  have Q3:=Lib.hid (E3.out.grow hgu)
  have Q5:=Lib.hid (E5.out.grow hgu)
  have A8:=Lib.hid (H8.out.grow hgu)
  have I9:=Lib.hid (own_grow H9.out hgu)
  have GU:=Lib.hid (gbT G2.out hgu)
  have LB : 0 < n → ∀ x,A = some x → x.block ≠ r ∧ x.block ≠ r + 1:=fun hn x hx => by
    obtain ⟨b,o,e',hb,_⟩:=H.out.1.2 hn
    rw [hx] at e'
    injection e' with e'
    rw [e']
    simp only
    omega
  have LBH:=Lib.hid LB
  clear hcu hg h1 h2 h3 h7 h8 h8' h9 B3 B5 HC E3 E5 G2 H8 H9 hgu LB
  go_wp2_with fail
  obtain ⟨g8,hg8⟩ : ∃ x,w2.heap.size + 1 = x:=⟨_,rfl⟩
  obtain ⟨g10,hg10⟩ : ∃ x,g8 + 1 = x:=⟨_,rfl⟩
  obtain ⟨g,hgg⟩ : ∃ x,r + 1 + 1 = x:=⟨_,rfl⟩
  rw [hg8] at Q8 Q10 ⊢
  rw [hg10] at Q10 ⊢
  rw [hgg] at QC ⊢
  have hgr1 : r + 1 < g:=by omega
  have hgr2 : g < r + 3:=by omega
  have hrw : r + 3 ≤ w1.heap.size:=by omega
  have h8r : r + 3 ≤ g8:=by omega
  have h10r : r + 3 ≤ g10:=by omega
  have hur : r + 3 ≤ wu.heap.size:=by have:=Q8.out.lt; omega
  have hpr:=field_range HF.out.ok.fld
  have hp2 : (2 : Int) ≤ P:=hpr.1
  have hp1 : (P : Int) ≤ 101:=hpr.2
  have LB:=LBH.out
  have H8L:=H8'.out
  clear hg8 hg10 hgg hwu hpr
  refine region_chain [.rd (.agg #[.int .i64 P,.slice A1 n1 s1,.slice A2 n2 s2]),.rd (.slice I 60 ci),.rd (.agg #[.int .i64 s,.int .i64 a]),.rd (.pointer (some ⟨g,0,none⟩)),.rd (.pointer (some ⟨g8,0,none⟩)),.rd (.int .i64 P),.ch,.ch,.ch,.ch,.ch] (fun z => z = g ∨ z = r ∨ z = r + 1)
    [⟨[],fun _ w' => w' = wu.drew⟩,
     ⟨[26],fun l w' => S29 wu g r P A n c bs #[.int .i64 0,.slice none 0 0,.slice none 0 0] #[.int .i64 0,.int .i64 0] (l.getD 0 undef) w'⟩,
     ⟨[26],fun l w' => S29 wu g r P A n c bs #[.int .i64 P,.slice A1 n1 s1,.slice A2 n2 s2] #[.int .i64 0,.int .i64 0] (l.getD 0 undef) w'⟩,
     ⟨[26,3],fun l w' => S29 wu g r P A n c bs #[.int .i64 P,.slice A1 n1 s1,.slice A2 n2 s2] #[.int .i64 0,.int .i64 0] (l.getD 0 undef) w' ∧ l.getD 1 undef = .slice I 60 ci⟩,
     ⟨[26,3],fun l w' => S29 wu g r P A n c bs #[.int .i64 P,.slice A1 n1 s1,.slice A2 n2 s2] #[.int .i64 s,.int .i64 a] (l.getD 0 undef) w' ∧ l.getD 1 undef = .slice I 60 ci⟩,
     ⟨[3,5],fun l w' => (S29 wu g r P A n c bs #[.int .i64 P,.slice A1 n1 s1,.slice A2 n2 s2] #[.int .i64 s,.int .i64 a] (l.getD 1 undef) w') ∧ l.getD 0 undef = .slice I 60 ci⟩]
    (by kernel_rfl) (by kernel_rfl) (by kernel_rfl) 5 (by kernel_rfl) (by simp only [flOk,and_true]) rfl rfl ?_ ?_
  · simp only [hopsK,hopK,Kd.next,and_true]
    refine ⟨?_, ?_, ?_, ?_, ?_, ?_, ?_, ?_, ?_, ?_, ?_⟩
    · intro f w4 hG hd
      have B4:=(Q8.out.grow (gbD (gbR wu none))).chg hG (by omega)
      have b0:=B4.cell 0
      have b1:=B4.cell 1
      have b2:=B4.cell 2
      simp at b0 b1 b2
      (try simp [depsC,dstAt,kAt,bindE,List.filter_cons,bd_data,bd_chain,bd_guard,bd_phase,bd_text,bd_gc] at hd)
      (first | simp [puts,dsts,Act.put,hd] | simp [puts,dsts,Act.put])
      clear hd
      go_wp2_with fail
      exact ⟨rfl,rfl⟩
    · intro f w4 hG hd
      (try simp [depsC,dstAt,kAt,bindE,List.filter_cons,bd_data,bd_chain,bd_guard,bd_phase,bd_text,bd_gc] at hd)
      (first | simp [puts,dsts,Act.put,hd] | simp [puts,dsts,Act.put])
      clear hd
      go_wp2_with fail
      exact ⟨rfl,rfl⟩
    · intro f w4 hG hd
      have B4:=(Q10.out.grow (gbD (gbR wu none))).chg hG (by omega)
      have b0:=B4.cell 0
      have b1:=B4.cell 1
      simp at b0 b1
      (try simp [depsC,dstAt,kAt,bindE,List.filter_cons,bd_data,bd_chain,bd_guard,bd_phase,bd_text,bd_gc] at hd)
      (first | simp [puts,dsts,Act.put,hd] | simp [puts,dsts,Act.put])
      clear hd
      go_wp2_with fail
      exact ⟨rfl,rfl⟩
    · intro f w4 hG hd
      (try simp [depsC,dstAt,kAt,bindE,List.filter_cons,bd_data,bd_chain,bd_guard,bd_phase,bd_text,bd_gc] at hd)
      (first | simp [puts,dsts,Act.put,hd] | simp [puts,dsts,Act.put])
      clear hd
      go_wp2_with fail
      exact ⟨rfl,rfl⟩
    · intro f w4 hG hd
      (try simp [depsC,dstAt,kAt,bindE,List.filter_cons,bd_data,bd_chain,bd_guard,bd_phase,bd_text,bd_gc] at hd)
      (first | simp [puts,dsts,Act.put,hd] | simp [puts,dsts,Act.put])
      clear hd
      go_wp2_with fail
      exact ⟨rfl,rfl⟩
    · intro f w4 hG hd
      have B4:=(Q8.out.grow (gbD (gbR wu none))).chg hG (by omega)
      have b0:=B4.cell 0
      simp at b0
      (try simp [depsC,dstAt,kAt,bindE,List.filter_cons,bd_data,bd_chain,bd_guard,bd_phase,bd_text,bd_gc] at hd)
      (first | simp [puts,dsts,Act.put,hd] | simp [puts,dsts,Act.put])
      clear hd
      go_wp2_with fail
      exact ⟨rfl,rfl⟩
    · intro f w4 hG hI hd
      have hI : w4 = wu.drew:=hI
      subst hI
      (try simp [depsC,dstAt,kAt,bindE,List.filter_cons,bd_data,bd_chain,bd_guard,bd_phase,bd_text,bd_gc] at hd)
      (first | simp [puts,dsts,Act.put,hd] | simp [puts,dsts,Act.put])
      clear hd
      go_wp2_with fail
      refine (l28Errors_c _ P (by omega) hp1 g A n c bs (QC.out.grow (gbD (gbR wu none)))).mono ?_
      rintro e w6 ⟨v,es,rfl,o6,l6,r6,c6,g6'⟩
      obtain ⟨R,cr,rfl,hcr,_,_⟩:=own_rd2 o6
      have HIN : errR wu.heap.size P (.slice R es.length cr) w6:=⟨R,cr,es,rfl,hcr,l6,r6,own_base o6 (by simp)⟩
      have CG : Chg (fun y => y = g ∨ y = r ∨ y = r + 1) wu.drew w6:=Chg.of g6' (fun y hy => by injection hy with hy; exact .inl hy.symm)
      have HS : Hid (S29 wu g r P A n c bs #[.int .i64 0,.slice none 0 0,.slice none 0 0] #[.int .i64 0,.int .i64 0] (.slice R es.length cr) w6):=Lib.hid ⟨HIN,c6,(Q3.out.grow (gbD (gbR wu none))).grown g6' (by simp; omega),(Q5.out.grow (gbD (gbR wu none))).grown g6' (by simp; omega),CG⟩
      have HCG:=Lib.hid CG
      clear o6 c6 g6' HIN CG
      go_wp2_with fail
      exact ⟨_,rfl,HS.out,HCG.out,by simp [keepsC]⟩
    · intro f w4 hG hI hd
      have hS0 : S29 wu g r P A n c bs #[.int .i64 0,.slice none 0 0,.slice none 0 0] #[.int .i64 0,.int .i64 0] (f 26) w4:=hI
      obtain ⟨hin,hcur,q3,q5,qc⟩:=hS0
      (try simp [depsC,dstAt,kAt,bindE,List.filter_cons,bd_data,bd_chain,bd_guard,bd_phase,bd_text,bd_gc] at hd)
      have e20 : f 20 = .agg #[.int .i64 P,.slice A1 n1 s1,.slice A2 n2 s2]:=by first | exact hd | exact hd.1 | exact hd.2 | exact hd.2.1
      clear hd hI
      have f0:=q3.frozen 0
      have f1:=q3.frozen 1
      have f2:=q3.frozen 2
      have b0:=q3.cell 0
      have b1:=q3.cell 1
      have b2:=q3.cell 2
      simp at b0 b1 b2
      have CH:=chg_setCells r [.int .i64 P,.slice A1 n1 s1,.slice A2 n2 s2] 0 w4
      have RS:=blk_setCells q3 [.int .i64 P,.slice A1 n1 s1,.slice A2 n2 s2] rfl
      have CW:=CH.mono (T:=fun y => y = g ∨ y = r ∨ y = r + 1) (fun y hy => .inr (.inl hy))
      have HS : S29 wu g r P A n c bs #[.int .i64 P,.slice A1 n1 s1,.slice A2 n2 s2] #[.int .i64 0,.int .i64 0] (f 26) (setCells w4 r 0 [.int .i64 P,.slice A1 n1 s1,.slice A2 n2 s2]):=⟨hin.chg CH (fun y hy => by omega),hcur.kept CH (CH.block g hcur.lt (by omega)) (fun hn x hx e => (LB hn x hx).1 e),RS,q5.chg CH (by omega),qc.trans CW⟩
      simp only [setCells,Nat.zero_add,Nat.reduceAdd] at HS CW
      have HSH:=Lib.hid HS
      have HCG:=Lib.hid CW
      clear CH RS CW HS hin hcur q3 q5 qc
      simp [puts,dsts,Act.put,e20]
      go_wp2_with fail
      exact ⟨rfl,⟨.bool false,HSH.out⟩,HCG.out,by simp [keepsC]⟩
    · intro f w4 hG hI hd
      have hS0 : S29 wu g r P A n c bs #[.int .i64 P,.slice A1 n1 s1,.slice A2 n2 s2] #[.int .i64 0,.int .i64 0] (f 26) w4:=hI
      have HS1:=Lib.hid hS0
      (try simp [depsC,dstAt,kAt,bindE,List.filter_cons,bd_data,bd_chain,bd_guard,bd_phase,bd_text,bd_gc] at hd)
      have e21 : f 21 = .slice I 60 ci:=by first | exact hd | exact hd.1 | exact hd.2 | exact hd.2.1
      clear hd hI hS0
      simp [puts,dsts,Act.put,e21]
      go_wp2_with fail
      exact ⟨_,rfl,⟨HS1.out,rfl⟩,Chg.refl _ _,by simp [keepsC]⟩
    · intro f w4 hG hI hd
      have hS0 : S29 wu g r P A n c bs #[.int .i64 P,.slice A1 n1 s1,.slice A2 n2 s2] #[.int .i64 0,.int .i64 0] (f 26) w4 ∧ f 3 = .slice I 60 ci:=hI
      obtain ⟨⟨hin,hcur,q3,q5,qc⟩,e3⟩:=hS0
      (try simp [depsC,dstAt,kAt,bindE,List.filter_cons,bd_data,bd_chain,bd_guard,bd_phase,bd_text,bd_gc] at hd)
      have e22 : f 22 = .agg #[.int .i64 s,.int .i64 a]:=by first | exact hd | exact hd.1 | exact hd.2 | exact hd.2.1
      clear hd hI
      have f0:=q5.frozen 0
      have f1:=q5.frozen 1
      have b0:=q5.cell 0
      have b1:=q5.cell 1
      simp at b0 b1
      have CH:=chg_setCells (r + 1) [.int .i64 s,.int .i64 a] 0 w4
      have RS:=blk_setCells q5 [.int .i64 s,.int .i64 a] rfl
      have CW:=CH.mono (T:=fun y => y = g ∨ y = r ∨ y = r + 1) (fun y hy => .inr (.inr hy))
      have HS : S29 wu g r P A n c bs #[.int .i64 P,.slice A1 n1 s1,.slice A2 n2 s2] #[.int .i64 s,.int .i64 a] (f 26) (setCells w4 (r + 1) 0 [.int .i64 s,.int .i64 a]):=⟨hin.chg CH (fun y hy => by omega),hcur.kept CH (CH.block g hcur.lt (by omega)) (fun hn x hx e => (LB hn x hx).2 e),q3.chg CH (by omega),RS,qc.trans CW⟩
      simp only [setCells,Nat.zero_add,Nat.reduceAdd] at HS CW
      have HSH:=Lib.hid HS
      have HCG:=Lib.hid CW
      clear CH RS CW HS hin hcur q3 q5 qc
      simp [puts,dsts,Act.put,e22]
      go_wp2_with fail
      exact ⟨rfl,⟨.bool false,HSH.out,e3⟩,HCG.out,by simp [keepsC]⟩
    · intro f w4 hG hI hd
      have hS0 : S29 wu g r P A n c bs #[.int .i64 P,.slice A1 n1 s1,.slice A2 n2 s2] #[.int .i64 s,.int .i64 a] (f 26) w4 ∧ f 3 = .slice I 60 ci:=hI
      obtain ⟨hS1,e3⟩:=hS0
      obtain ⟨R,cr,es,e26,_⟩:=hS1.1
      rw [e26] at hS1
      have HS1:=Lib.hid hS1
      clear hd hI hS1
      simp [puts,dsts,Act.put,e26]
      go_wp2_with fail
      exact ⟨_,rfl,HS1.out,e3⟩
  intro f w9 hI hd
  simp only [puts,dsts,Act.put,List.filterMap_cons,List.filterMap_nil,List.setIfInBounds_toArray,List.set_cons_zero,List.set_cons_succ]
  obtain ⟨hS,e3⟩:=hI
  have e3 : f 3 = .slice I 60 ci:=e3
  have hS : S29 wu g r P A n c bs #[.int .i64 P,.slice A1 n1 s1,.slice A2 n2 s2] #[.int .i64 s,.int .i64 a] (f 5) w9:=hS
  obtain ⟨⟨R,cr,es,e5,hcr,hel,her,heo⟩,hcur,q3,q5,qc⟩:=hS
  rw [e3,e5]
  have qc:=chgDr qc
  have HCA:=Lib.hid (AggO.rd (A8.out.chg qc (fun y hy e => by have:=H8L y hy; omega)))
  have HIN:=Lib.hid (show Ints w9 I 60 ins from Rd.ofOwn (Chg.own I9.out qc (fun y hy e => by have:=(I9.out.lt y hy).1; omega)))
  have HER:=Lib.hid (CS.toRd _ (cints_own heo))
  have HEB:=Lib.hid (elemsB_mk HF.out.ok.fld her)
  have GZ:=Lib.hid (gbChg GU.out qc (fun y hy => by omega))
  have HQ3:=Lib.hid q3
  have HQ5:=Lib.hid q5
  clear hd e3 e5 q3 q5 qc hcur heo
  go_wp2_with fail
  refine ret_ctct Try.results76 (by rfl) stArith (cs:=#[.int .i64 P,.slice A1 n1 s1,.slice A2 n2 s2]) HQ3.out (by rfl) (by rfl) stTape (ds:=#[.int .i64 s,.int .i64 a]) HQ5.out (by rfl) (by rfl) ?_
  exact ⟨A1,A2,I,R,n1,s1,n2,s2,ci,cr,mst,mou,ins,es,P,s,a,rfl,HF.out.ok,HF.out.len,HF.out.el,HEB.out,hel,hcr,h4,h5,h6,HCA.out,HIN.out,h10,HER.out,GZ.out⟩
end Go.Proofs.Ytapljpcpmdlppaa
/-
 Costs: the walks of CostWithin and AddCosts,in the reference and in the program,and of the two laws.
-/
namespace Go.Proofs.Ytapljpcpmdlppaa
open Go.RowKit
set_option linter.unusedVariables false
set_option linter.unusedSimpArgs false
end Go.Proofs.Ytapljpcpmdlppaa
/-
 ArithCost,UsedErrors: reference and program.
-/
namespace Go.Proofs.Ytapljpcpmdlppaa
open Go.RowKit
set_option linter.unusedVariables false
set_option linter.unusedSimpArgs false
def usedE (m : AM) (es : List Int) : List Int:=es.take (min es.length (2 * muls m.st m.st.length))
theorem usedE_len (m : AM) (es : List Int) : (usedE m es).length ≤ es.length:=by simp [usedE]; omega
theorem Ints.take {w : World} {A : Option Addr} {n : Nat} {zs : List Int} (h : Ints w A n zs) {k : Nat} (hk : k ≤ n) : Ints w A k (zs.take k):=by
 have hl:=h.len
 refine ⟨by simp; omega,fun hp => ?_⟩
 obtain ⟨b,o,e,hb,hc⟩:=h.at_ (by omega)
 refine ⟨b,o,e,hb,fun j hj => ?_⟩
 rw [hc j (by omega),List.getElem?_map,List.getElem?_take,if_pos (by omega),List.getElem?_eq_getElem (by omega),getI _ _ (by omega)]
 rfl
set_option maxHeartbeats 1000000 in
theorem implUsedErrors_c (m : AM) (es : List Int) (v0 v1 : Value) (w : World) (h : AggR w (carith m) v0) (k : (cints es).rd w v1) (hz : m.st.length ≤ 1048576) (hz1 : es.length ≤ 1048576) :
  Calls Try.prog 34 #[v0,v1] w (RowI (usedE m es) w):=by
 have HV:=Lib.hid h
 obtain ⟨u1,u2,rfl,h1,h2⟩:=carith_open h
 obtain ⟨A,c,rfl,hc,hm,hI⟩:=cints_rd k
 have HI:=Lib.hid hI
 have hq:=muls_le m.st m.st.length
 obtain ⟨q,hqe⟩ : ∃ q,muls m.st m.st.length = q:=⟨_,rfl⟩
 rw [hqe] at hq
 have HQ:=Lib.hid hqe
 obtain ⟨n,hn⟩ : ∃ n,es.length = n:=⟨_,rfl⟩
 rw [hn] at hc hz1 HI ⊢
 have HN:=Lib.hid hn
 unfold maxLen at hm
 have G1:=Lib.hid (gbA (gbR w none) (.cells #[.int .i64 m.p,u1,u2] 30))
 clear h h1 h2 k hI hqe hn
 go_enter Try.func34,Try.ntmps34
 go_wp2_with fail
 refine (implCountMuls_c m _ _ (AggR.grow HV.out G1.out)).mono ?_
 rintro e w1 ⟨rfl,g⟩
 rw [HQ.out]
 have G2:=Lib.hid (gbT G1.out g)
 clear g G1
 have hz0:=G2.out.size
 by_cases hmin : 2 * (q : Int) < (n : Int)
 ·have HU : Hid (usedE m es = es.take (2 * (q : Int)).toNat):=by unfold Hid usedE; rw [HQ.out,HN.out]; congr 1; omega
  have hlt : (es.take (2 * (q : Int)).toNat).length = (2 * (q : Int)).toNat:=by rw [List.length_take,HN.out]; omega
  have HLT:=Lib.hid hlt
  clear hlt
  go_wp2_with (go_at_call 90; refine (ints_c A (2 * (q : Int)).toNat c (es.take (2 * (q : Int)).toNat) _ (Ints.grow (Ints.take HI.out (by omega)) G2.out) (by omega)).mono ?_; rintro e w5 ⟨v',rfl,hown5,hg5⟩)
  all_goals
   go_ret
   rw [HU.out]
   exact ⟨v',rfl,own_base (by rw [HLT.out]; exact hown5) hz0,gbT G2.out hg5⟩
 ·have HU : Hid (usedE m es = es):=by unfold Hid usedE; rw [HQ.out,HN.out,List.take_of_length_le]; rw [HN.out]; omega
  go_wp2_with (go_at_call 90; refine (ints_c A n c es _ (Ints.grow HI.out G2.out) (by omega)).mono ?_; rintro e w5 ⟨v',rfl,hown5,hg5⟩)
  all_goals
   go_ret
   rw [HU.out]
   exact ⟨v',rfl,own_base (by rw [HN.out]; exact hown5) hz0,gbT G2.out hg5⟩
end Go.Proofs.Ytapljpcpmdlppaa
/-
 FnCheated: the plain law: how many keys give which outcome.
-/
namespace Go.Proofs.Ytapljpcpmdlppaa
set_option linter.unusedVariables false
set_option linter.unusedSimpArgs false
theorem used_at {m : AM} {es : List Int} {i : Nat} (hi : i < 2 * muls m.st m.st.length) : (usedE m es).getD i 0 = errAt es i:=by
 unfold usedE errAt
 rw [List.getD_eq_getElem?_getD,List.getD_eq_getElem?_getD,List.getElem?_take]
 by_cases h : i < es.length
 ·rw [if_pos (by omega)]
 ·rw [if_neg (by omega),List.getElem?_eq_none (by omega)]
theorem used_zero {m : AM} {es : List Int} (h : (usedE m es).all (· == 0) = true) : ∀ i,i < 2 * muls m.st m.st.length → errAt es i = 0:=by
 intro i hi
 rw [← used_at hi,List.getD_eq_getElem?_getD]
 cases hx : (usedE m es)[i]? with
 | none => rfl
 | some x =>
  rw [List.all_eq_true] at h
  have:=h x (List.mem_of_getElem? hx)
  simpa using this
theorem used_not {m : AM} {es : List Int} (h : (usedE m es).all (· == 0) = false) : ∃ i,i < 2 * muls m.st m.st.length ∧ errAt es i ≠ 0:=by
 rw [List.all_eq_false] at h
 obtain ⟨x,hx,h0⟩:=h
 obtain ⟨i,hi,hxi⟩:=List.getElem_of_mem hx
 have hl : i < 2 * muls m.st m.st.length:=by
  have : (usedE m es).length ≤ 2 * muls m.st m.st.length:=by unfold usedE; rw [List.length_take]; omega
  omega
 refine ⟨i,hl, ?_⟩
 rw [← used_at hl,List.getD_eq_getElem?_getD,List.getElem?_eq_getElem hi,hxi]
 simpa using h0
section
variable {m : AM} {P s : Nat} {ins es : List Int}
theorem cnt_sum : ∀ x,cntO m P s ins es x 0 + cntO m P s ins es x 1 + cntO m P s ins es x 2 = x
 | 0 => rfl
 | x + 1 => by
  have ih:=cnt_sum x
  have h3:=ocN_lt ⟨(P : Int),[(x : Int)]⟩ m P s ins es
  rw [cntO,cntO,cntO]
  generalize ocN ⟨(P : Int),[(x : Int)]⟩ m P s ins es = o at h3
  rcases (by omega : o = 0 ∨ o = 1 ∨ o = 2) with h | h | h <;> subst h <;> simp <;> omega
theorem oc_right {k : KM} (hf : Fit k m P ins) (he : elemsB k.p es = true) (h : (usedE m es).all (· == 0) = true) : ocN k m P s ins es = 0:=by
 obtain ⟨h1,h2⟩:=run_right (s:=s) hf he (used_zero h)
 unfold ocN
 rw [h1,if_pos rfl,if_pos h2]
theorem cnt_right (hok : AOk m) (hp : m.p = P) (hl : ins.length = 60) (hel : elemsB m.p ins = true) (he : elemsB (P : Int) es = true) (h : (usedE m es).all (· == 0) = true) : ∀ x,x ≤ P → cntO m P s ins es x 0 = x
 | 0,_ => rfl
 | x + 1,hx => by
  have ih:=cnt_right hok hp hl hel he h x (by omega)
  have hf : Fit ⟨(P : Int),[(x : Int)]⟩ m P ins:=⟨keys_one (by rw [← hp]; exact hok.fld) (by omega),hok,hp.symm,rfl,hl,hel⟩
  rw [cntO,ih,oc_right hf he h]
  simp
theorem cnt_wrong (hok : AOk m) (hp : m.p = P) (hl : ins.length = 60) (hel : elemsB m.p ins = true) (he : elemsB (P : Int) es = true) (h : (usedE m es).all (· == 0) = false) : ∀ x,x ≤ P → cntO m P s ins es x 0 + cntO m P s ins es x 2 ≤ if x = 0 then 0 else 1
 | 0,_ => by simp [cntO]
 | x + 1,hx => by
  have ih:=cnt_wrong hok hp hl hel he h x (by omega)
  have hfl : fieldB (P : Int) = true:=by rw [← hp]; exact hok.fld
  have hf : Fit ⟨(P : Int),[(x : Int)]⟩ m P ins:=⟨keys_one hfl (by omega),hok,hp.symm,rfl,hl,hel⟩
  obtain ⟨i,hi,hne⟩:=used_not h
  have p2:=(field_range hfl).1
  rw [if_neg (by omega),cntO,cntO]
  by_cases h0 : x = 0
  ·subst h0
   rw [if_pos rfl] at ih
   have h3:=ocN_lt ⟨(P : Int),[((0 : Nat) : Int)]⟩ m P s ins es
   generalize ocN ⟨(P : Int),[((0 : Nat) : Int)]⟩ m P s ins es = o at h3 ⊢
   rcases (by omega : o = 0 ∨ o = 1 ∨ o = 2) with h | h | h <;> subst h <;> simp <;> omega
  ·rw [if_neg h0] at ih
   have hb:=run_wrong (s:=s) hf he (by
    unfold fsum
    simp only [List.sum_cons,List.sum_nil,Int.add_zero]
    rw [Int.emod_eq_of_lt (by omega) (by omega)]
    omega) hi hne
   have ho : ocN ⟨(P : Int),[(x : Int)]⟩ m P s ins es = 1:=by unfold ocN; rw [hb]; rfl
   rw [ho]
   simp
   exact ih
end
end Go.Proofs.Ytapljpcpmdlppaa
