/-
 The dump's head,its first three words apart from the rest: three closed facts on the whole program look at these words alone.
-/
import Derived.KernelRfl
import GoSem.ClaimJoined
import Derived.Test.YthaadgdeadbhkaaGreatRows
import Derived.ProofKit
import Derived.OpenShut
import Derived.Lib.SmallJoins
import Derived.ChangeOld
import Derived.Deep.Slices
import Derived.Deep.Fields
import Derived.ChangeSame
import Derived.Test.YthaadgdeadbhkaaGreatMgFnExactEngineRound27
open Go.RowKit
set_option linter.unusedVariables false
set_option linter.unusedSimpArgs false
namespace Go.Proofs.YthaadgdeadbhkaaGreat
set_option maxRecDepth 100000
theorem QA:∀(w r:List Char),(w.all fun c=>c != Char.ofNat 32)=true→wordsSigns (w ++ Char.ofNat 32 :: r)=w :: wordsSigns r
 | [],r,_=>by rfl
 | c :: w,r,h=>by
  simp only [List.all_cons,Bool.and_eq_true,bne_iff_ne] at h;have ih:=QA w r h.2;have hc:¬c=Char.ofNat 32:=h.1
  show wordsSigns (c :: (w ++ Char.ofNat 32 :: r))=_
  rw [wordsSigns,ih];exact fun e=>hc e
def wHead:List Char:=(List.map Char.ofNat [104,97,114,110,101,115,115])
def wSum:List Char:=(List.map Char.ofNat [57,98,52,51,100,52,57,98,57,49,56,48,51,102,48,53,52,56,97,56,98,55,98,53,57,51,57,50,55,50,56,97,101,55,50,50,102,100,50,48,56,52,98,97,56,98,56,99,52,57,51,102,102,51,97,101,100,54,52,49,57,97,99,97])
def wCut:List Char:=(List.map Char.ofNat [99,117,116])
def wRest:List Char:=(List.map Char.ofNat [97,116,32,108,111,111,112,46,101,120,97,109,112,108,101,47,103,48,48,57,55,57,47,108,97,119,115,46,70,110,69,120,97,99,116,69,110,103,105,110,101,82,117,110,32,108,111,111,112,46,101,120,97,109,112,108,101,47,103,48,48,57,55,57,47,108,97,119,115,46,70,110,69,120,97,99,116,69,110,103,105,110,101,82,111,117,110,100,32,108,111,111,112,46,101,120,97,109,112,108,101,47,103,48,48,57,55,57,47,108,97,119,115,46,70,110,69,120,97,99,116,79,117,116,99,111,109,101,79,102,32,108,111,111,112,46,101,120,97,109,112,108,101,47,103,48,48,57,55,57,47,108,97,119,115,46,70,110,69,120,97,99,116,67,111,117,110,116,79,117,116,99,111,109,101,115])
theorem behind_of (h s:List Char) (r:List (List Char)) (hc:((h == "harness".toList||h == "ownmain".toList)&&isSumSigns s)=true):behindMainWord (h :: s :: r)=r:=by
 simp only [behindMainWord,hc,if_true]
theorem initIs:Tryz.prog.initOrder=String.ofList (wHead ++ Char.ofNat 32 :: (wSum ++ Char.ofNat 32 :: (wCut ++ Char.ofNat 32 :: wRest))):=by kernel_rfl
theorem words:∃X,wordsSigns Tryz.prog.initOrder.toList=wHead :: wSum :: wCut :: X:=by
 rw [initIs,String.toList_ofList];refine ⟨wordsSigns wRest, ?_⟩;rw [QA _ _ (by as_aux_lemma=>kernel_rfl),QA _ _ (by as_aux_lemma=>kernel_rfl),QA _ _ (by as_aux_lemma=>kernel_rfl)]
theorem behind:∃X,behindMainWord (wordsSigns Tryz.prog.initOrder.toList)=wCut :: X:=by
 obtain ⟨X,h⟩:=words;refine ⟨X, ?_⟩;rw [h];exact behind_of _ _ _ (by as_aux_lemma=>kernel_rfl)
theorem strip (X:List (List Char)):stripLifts liftWords (wCut :: X)=([],wCut :: X):=by
 have hc:∀o∈liftWords,(wCut == o.toList)=false:=by as_aux_lemma=>exact of_decide_eq_true (by kernel_rfl)
 generalize wCut=c at hc;generalize liftWords=l at hc
 induction l with
 | nil=>rfl
 | cons o os ih =>
  rw [stripLifts,if_neg (by rw [hc o (List.mem_cons_self ..)];simp)];exact ih fun o' ho'=>hc o' (List.mem_cons_of_mem _ ho')
theorem c_gc:(wCut == "gc".toList)=false:=by as_aux_lemma=>kernel_rfl
theorem c_spec:(wCut == "spec".toList)=false:=by as_aux_lemma=>kernel_rfl
theorem c_carried:(wCut == "carried".toList)=false:=by as_aux_lemma=>kernel_rfl
theorem c_cut:(wCut == "cut".toList)=true:=by as_aux_lemma=>kernel_rfl
theorem later:Tryz.prog.laysLater=false:=by as_aux_lemma=>kernel_rfl
theorem noReflect:Tryz.prog.bearsReflect=false:=by as_aux_lemma=>kernel_rfl
theorem door:Tryz.prog.doorFits []=true:=by as_aux_lemma=>kernel_rfl
theorem mayEnter_of {P:Program} {c:List Char} {X:List (List Char)} (h:behindMainWord (wordsSigns P.initOrder.toList)=c :: X) (hs:stripLifts liftWords (c :: X)=([],c :: X))
  (h1:(c == "gc".toList)=false) (h2:(c == "spec".toList)=false) (h3:(c == "carried".toList)=false) (h4:(c == "cut".toList)=true) (l:P.laysLater=false) (r:P.bearsReflect=false) (d:P.doorFits []=true):P.mayEnter=true:=by
 unfold Program.mayEnter;rw [h];simp only [hs,h1,h2,h3,h4,l,r,d,List.head?_cons,Option.some_beq_some,Bool.false_and,Bool.or_false,Bool.not_false,Bool.or_true,Bool.and_true,List.contains_nil]
theorem mayEnter:Tryz.prog.mayEnter=true:=by
 obtain ⟨X,h⟩:=behind;exact mayEnter_of h (strip X) c_gc c_spec c_carried c_cut later noReflect door
theorem lifts_of {P:Program} {c:List Char} {X:List (List Char)} (h:behindMainWord (wordsSigns P.initOrder.toList)=c :: X) (hs:stripLifts liftWords (c :: X)=([],c :: X)):P.headLifts=[]:=by
 unfold Program.headLifts;rw [h,hs]
 show (if ((([]:List String),c :: X).2.head? == some "cut".toList)=true then [] else [])=[]
 split <;> rfl
theorem final_of {P:Program} {c:List Char} {X:List (List Char)} (h:behindMainWord (wordsSigns P.initOrder.toList)=c :: X) (hs:stripLifts liftWords (c :: X)=([],c :: X)) (h3:(c == "carried".toList)=false):P.liftsFinal=false:=by
 unfold Program.liftsFinal;rw [lifts_of h hs,h];simp only [List.head?_cons,Option.some_beq_some,h3,Bool.false_and,Bool.false_or,List.contains_nil]
theorem liftsFinal:Tryz.prog.liftsFinal=false:=by
 obtain ⟨X,h⟩:=behind;exact final_of h (strip X) c_carried
theorem make_of {P:Program} {c:List Char} {X:List (List Char)} (h:behindMainWord (wordsSigns P.initOrder.toList)=c :: X)
  (h1:(c == "gc".toList)=false) (h2:(c == "spec".toList)=false) (h4:(c == "cut".toList)=true):P.make=some .cut:=by
 unfold Program.make;rw [h];simp only [h1,h2,h4,Bool.false_or,Bool.true_or,if_true,Bool.false_eq_true,if_false]
theorem make:Tryz.prog.make=some .cut:=by
 obtain ⟨X,h⟩:=behind;exact make_of h c_gc c_spec c_cut
open Go.ChangeShapes Go.WideShapes Go.ChangeAt Go.RowKit Go.Joins
theorem own:ownKnob Tryz.prog.godebug=none:=by kernel_rfl
theorem laidOut:laidOutB Tryz.prog=true:=by kernel_rfl
section
variable {H:Type} {enc:TypeId × Value→H} {P:Program} {w:World} {base:Nat} {spare:Nat→Bool} {held:Bool}
theorem tI {t:TypeId} {k:IntKind} {m:Nat} {v:Value} {y:DataW H × List MemPlace} (ht:P.underlying t=some (.int k)) (h:DataW.trod enc P w base spare held m t [v]=some y):∃n,v=.int k n∧(Lit.int k n).wf=true:=by
 obtain ⟨n,h1,_,hw⟩:=DataW.trod_int ht h;simp at h1;exact ⟨n,h1,hw⟩
theorem tB {t:TypeId} {m:Nat} {v:Value} {y:DataW H × List MemPlace} (ht:P.underlying t=some .bool) (h:DataW.trod enc P w base spare held m t [v]=some y):∃b,v=.bool b:=by
 obtain ⟨n,h1,_⟩:=DataW.trod_bool ht h;simp at h1;exact ⟨n,h1⟩
end
theorem andT {a b:Bool} (ha:a=true) (hb:b=true):(a&&b)=true:=by rw [ha,hb];rfl
theorem lF {b:Bool} (h:b=false):(b == Tryz.prog.liftsFinal)=true:=by rw [liftsFinal,h];rfl
theorem mK {m:Make} (h:m=.cut):(Tryz.prog.make == some m)=true:=by rw [make,h];rfl
theorem gbEnd {a b:World} (h:a.grownBy b none):Below a.heap.size a b:=gbBelow h
open Go.ChangeShapes Go.WideShapes Go.ChangeAt Go.RowKit Go.Joins Go.Deep
theorem Qt {β:Type} (Q:Nat→β→Prop):∀n,(∀i,i<n→∃b,Q i b)→∃l:List β,l.length=n∧∀i b,l[i]?=some b→Q i b
 | 0,_=>⟨[],rfl,fun i b h=>by simp at h⟩
 | n+1,h=>by
  obtain ⟨l,hl,hq⟩:=Qt Q n fun i hi=>h i (by omega);obtain ⟨b,hb⟩:=h n (by omega);refine ⟨l ++ [b],by simp [hl],fun i b' h' => ?_⟩
  by_cases hi:i<n
  ·rw [List.getElem?_append_left (by omega)] at h';exact hq i b' h'
  ·rw [List.getElem?_append_right (by omega)] at h'
   have e:i=n:=by
    have:=(List.getElem?_eq_some_iff.1 h').1;simp at this;omega
   subst e;rw [hl,Nat.sub_self] at h';injection h' with h';subst h';exact hb
section
variable {H:Type} {enc:TypeId × Value→H} {P:Program} {w:World} {base:Nat} {spare:Nat→Bool} {held:Bool}
theorem open_fields {t e:TypeId} {fs:Array Field} {fuel:Nat} {cs:List Value} {x:DataW H × List MemPlace} (ht:P.underlying t=some (.slice e)) (he:P.underlying e=some (.struct fs))
  (hone:oneCellFields P fs=true) (hC:P.cellsOf e=fs.size) (h:DataW.trod enc P w base spare held fuel t cs=some x) :
  cs=[.slice none 0 0] ∨
  ∃(a:Addr) (len cap:Nat),cs=[.slice (some a) len cap]∧len≤cap∧cap≤maxLen ∧
   ∀i,i<len→∀(j:Nat) (f:Field),fs[j]?=some f→∃(v:Value) (n:Nat) (y:DataW H × List MemPlace),w.cell? (a.add (i*fs.size+j))=some v∧DataW.trod enc P w base spare held n f.type [v]=some y:=by
 rcases open_slice ht h with h0 | ⟨a,len,cap,m,n,D,Pl,hcs,hb,hl,hm,hmm,hx,hi⟩
 ·exact .inl h0.1
 ·refine .inr ⟨a,len,cap,hcs,hl,hm,fun i him j f hj => ?_⟩
  obtain ⟨cs',hc,ht'⟩:=hi i (by rw [hmm];split <;> omega);rw [hC] at hc;obtain ⟨ys,n',hn',hy,hlen,hyl,hf⟩:=DataW.trod_struct he ht';obtain ⟨_,hcl,hat⟩:=World.cells?_some hc;obtain ⟨ho,hk⟩:=hone_of hone j f hj;have hjl:j<fs.size:=(Array.getElem?_eq_some_iff.1 hj).1;have hcell:=hat j hjl;have hv:cs'[j]?=some (cs'[j]'(by omega)):=List.getElem?_eq_getElem (by omega);have h1:=hf j f hj;rw [ho,hk] at h1
  have hone':(cs'.drop j).take 1=[cs'[j]'(by omega)]:=by
   rw [List.drop_eq_getElem_cons (by omega)];rfl
  rw [hone'] at h1;have hys:ys[j]?=some (ys[j]'(by omega)):=List.getElem?_eq_getElem (by omega);refine ⟨_,_,_, ?_,h1.trans hys⟩;rw [← Go.Deep.add_add,hcell,hv]
theorem XH (b o j:Nat):(⟨b,o,none⟩:Addr).add j=⟨b,o+j,none⟩:=by unfold Addr.add;split <;> simp_all
theorem tSK {t e:TypeId} {fs:Array Field} {m:Nat} {v:Value} {y:DataW H × List MemPlace} (ht:P.underlying t=some (.slice e)) (he:P.underlying e=some (.struct fs))
  (hone:oneCellFields P fs=true) (hC:P.cellsOf e=fs.size) (hint:∀(j:Nat) (f:Field),fs[j]?=some f→P.underlying f.type=some (.int .i64)) (hs:0<fs.size)
  (h:DataW.trod enc P w base spare held m t [v]=some y) :
  ∃A n c,∃zss:List (List Int),v=.slice A n c∧n≤c∧c≤maxLen∧zss.length=n∧(∀zs∈zss,zs.length=fs.size∧∀z∈zs,(Lit.int .i64 z).wf=true)∧Rd w fs.size A n (zss.flatMap fun zs=>zs.map (Value.int .i64)):=by
 rcases open_fields ht he hone hC h with hcs | ⟨a,l,c,hcs,hl,hm,hf⟩
 ·simp at hcs
  exact ⟨none,0,0,[],hcs,Nat.le_refl _,by simp,rfl,by simp,by simp,fun h=>absurd h (by omega)⟩
 ·simp at hcs
  have hrow:∀i,i<l→∃zs:List Int,zs.length=fs.size∧∀(j:Nat) (z:Int),zs[j]?=some z→w.cell? (a.add (i*fs.size+j))=some (.int .i64 z)∧(Lit.int .i64 z).wf=true:=fun i hi =>
   Qt (fun j z=>w.cell? (a.add (i*fs.size+j))=some (.int .i64 z)∧(Lit.int .i64 z).wf=true) fs.size fun j hj=>by
    obtain ⟨v',n',y',hc,ht'⟩:=hf i hi j fs[j] (Array.getElem?_eq_getElem hj);obtain ⟨z,rfl,hw⟩:=tI (hint j fs[j] (Array.getElem?_eq_getElem hj)) ht';exact ⟨z,hc,hw⟩
  obtain ⟨zss,hzl,hz⟩:=Qt _ l hrow
  have hmem:∀zs∈zss,zs.length=fs.size∧∀z∈zs,(Lit.int .i64 z).wf=true:=fun zs hzs=>by
   obtain ⟨i,hi⟩:=List.mem_iff_getElem?.1 hzs;refine ⟨(hz i zs hi).1,fun z hz' => ?_⟩;obtain ⟨j,hj⟩:=List.mem_iff_getElem?.1 hz';exact ((hz i zs hi).2 j z hj).2
  refine ⟨some a,l,c,zss,hcs,hl,hm,hzl,hmem, ?_,fun hp => ?_⟩
  ·have:∀xs:List (List Int),(∀zs∈xs,zs.length=fs.size)→(xs.flatMap fun zs=>zs.map (Value.int .i64)).length=xs.length*fs.size:=by
    intro xs
    induction xs with
    | nil=>simp
    | cons x xs ih =>
     intro hx;rw [List.flatMap_cons,List.length_append,ih fun zs hzs=>hx zs (List.mem_cons_of_mem _ hzs),List.length_map,hx x (List.mem_cons_self ..),List.length_cons,Nat.succ_mul];omega
   rw [this zss fun zs hzs=>(hmem zs hzs).1,hzl]
  ·obtain ⟨b,o,s⟩:=a
   have h0:∃z,w.cell? (Addr.add ⟨b,o,s⟩ (0*fs.size+0))=some (.int .i64 z):=by
    have hz0:zss[0]?=some zss[0]:=List.getElem?_eq_getElem (by omega);have h1:=hz 0 _ hz0;have h2:zss[0][0]?=some (zss[0][0]'(by have:=h1.1;omega)):=List.getElem?_eq_getElem _;exact ⟨_,(h1.2 0 _ h2).1⟩
   obtain ⟨z0,h0⟩:=h0;have hs':s=none:=by simpa [Addr.add] using World.cell?_spot h0
   subst hs';rw [XH] at h0;refine ⟨b,o,rfl,World.block_lt_of_cell? w _ h0,fun j hj => ?_⟩
   have hgen:∀(xs:List (List Int)) (q:Nat),(∀zs∈xs,zs.length=fs.size)→(xs.flatMap fun zs=>zs.map (Value.int .i64))[q]?=xs[q / fs.size]?.bind fun zs=>(zs.map (Value.int .i64))[q % fs.size]?:=by
    intro xs
    induction xs with
    | nil=>intro q _;simp
    | cons x xs ih =>
     intro q hx;have hxl:=hx x (List.mem_cons_self ..);rw [List.flatMap_cons]
     by_cases hq:q<fs.size
     ·rw [List.getElem?_append_left (by simpa [hxl] using hq),Nat.div_eq_of_lt hq,Nat.mod_eq_of_lt hq];simp
     ·rw [List.getElem?_append_right (by simp [hxl];omega),List.length_map,hxl,ih _ fun zs hzs=>hx zs (List.mem_cons_of_mem _ hzs)]
      have e1:q / fs.size=(q - fs.size) / fs.size+1:=by
       rw [Nat.div_eq_sub_div hs (by omega)]
      have e2:q % fs.size=(q - fs.size) % fs.size:=by rw [Nat.mod_eq_sub_mod (by omega)]
      rw [e1,e2];simp
   rw [hgen zss j fun zs hzs=>(hmem zs hzs).1];have e:j / fs.size*fs.size+j % fs.size=j:=by rw [Nat.mul_comm];exact Nat.div_add_mod j fs.size
   have hdiv:j / fs.size<l:=(Nat.div_lt_iff_lt_mul hs).2 hj;have hz1:zss[j / fs.size]?=some (zss[j / fs.size]'(by omega)):=List.getElem?_eq_getElem (by omega);have h1:=hz _ _ hz1;have hmod:=Nat.mod_lt j hs;have h2:(zss[j / fs.size]'(by omega))[j % fs.size]?=some ((zss[j / fs.size]'(by omega))[j % fs.size]'(by have:=h1.1;omega)):=List.getElem?_eq_getElem _;have h3:=(h1.2 _ _ h2).1;rw [XH,e] at h3;rw [hz1,h3,Option.bind_some,List.getElem?_map,h2];rfl
end
theorem fl3 {w:World} {A:Option Addr} {n:Nat} {zss:List (List Int)} (hl:zss.length=n) (h:∀zs∈zss,zs.length=3∧∀z∈zs,(Lit.int .i64 z).wf=true) (hr:Rd w 3 A n (zss.flatMap fun zs=>zs.map (Value.int .i64))) :
  ∃xs,FL c3 3 w A n xs∧∀x∈xs,w3 x:=by
 have hc:∀zs∈zss,c3 (zs.getD 0 0,zs.getD 1 0,zs.getD 2 0)=zs.map (Value.int .i64):=fun zs hzs=>by
  obtain ⟨h1,_⟩:=h zs hzs
  match zs,h1 with
  | [a,b,c],_=>rfl
 refine ⟨zss.map fun zs=>(zs.getD 0 0,zs.getD 1 0,zs.getD 2 0),⟨by simp [hl], ?_⟩,fun x hx => ?_⟩
 ·have e:(zss.map fun zs=>(zs.getD 0 0,zs.getD 1 0,zs.getD 2 0)).flatMap c3=zss.flatMap fun zs=>zs.map (Value.int .i64):=by
   rw [List.flatMap_map];clear hr h hl
   induction zss with
   | nil=>rfl
   | cons z zss ih=>rw [List.flatMap_cons,List.flatMap_cons,hc z (List.mem_cons_self ..),ih fun zs hzs=>hc zs (List.mem_cons_of_mem _ hzs)]
  rw [e];exact hr
 ·obtain ⟨zs,hzs,rfl⟩:=List.mem_map.1 hx
  obtain ⟨h1,h2⟩:=h zs hzs
  match zs,h1,h2 with
  | [a,b,c],_,h2=>exact ⟨UH (h2 a (by simp)),UH (h2 b (by simp)),UH (h2 c (by simp))⟩
open Go.ChangeShapes Go.WideShapes Go.ChangeAt Go.RowKit Go.Joins Go.Deep
section
variable {H:Type} {enc:TypeId × Value→H} {P:Program} {w:World} {base:Nat} {spare:Nat→Bool} {held:Bool}
theorem kInts {t e:TypeId} {m:Nat} {v:Value} {y:DataW H × List MemPlace} (ht:P.underlying t=some (.slice e)) (he:P.underlying e=some (.int .i64)) (hc:P.cellsOf e=1)
  (h:DataW.trod enc P w base spare held m t [v]=some y):∃xs,(cints xs).rd w v∧∀z∈xs,i64w z:=by
 rcases open_ints ht he hc h with ⟨hcs,_⟩ | ⟨a,l,c,zs,hcs,_,hl,hm,hz,_,hcell,hwz⟩
 ·simp at hcs
  exact ⟨[],by rw [hcs];exact cints_mk (Ints.nil w none) (Nat.le_refl _) (by simp),by simp⟩
 ·simp at hcs
  have hlz:l≤zs.length:=by rw [hz];split <;> omega
  refine ⟨zs.take l, ?_,fun z hz'=>UH (hwz z (List.mem_of_mem_take hz'))⟩;rw [hcs];refine cints_mk ⟨by simp;omega,fun hp => ?_⟩ hl hm;obtain ⟨b,o,s⟩:=a;have h0:=hcell 0 (by omega);have hs:s=none:=by simpa [Addr.add] using World.cell?_spot h0
  subst hs;refine ⟨b,o,rfl,World.block_lt_of_cell? w _ h0,fun j hj => ?_⟩;have hj':=hcell j (by omega);rw [XH] at hj';rw [hj',List.getElem?_map,List.getElem?_take,if_pos (by omega),List.getElem?_eq_getElem (show j<zs.length by omega)];simp [zF,List.getElem?_eq_getElem (show j<zs.length by omega)]
theorem tSC {t e:TypeId} {m:Nat} {v:Value} {y:DataW H × List MemPlace} (ht:P.underlying t=some (.slice e)) (he:P.underlying e=some (.int .i64)) (hc:P.cellsOf e=1)
  (h:DataW.trod enc P w base spare held m t [v]=some y):∃A n c zs,v=.slice A n c∧IntsK .i64 w A n zs∧n≤c∧c≤maxLen:=by
 rcases open_ints ht he hc h with ⟨hcs,_⟩ | ⟨a,l,c,zs,hcs,_,hl,hm,hz,_,hcell,hwz⟩
 ·simp at hcs
  exact ⟨none,0,0,[],hcs,⟨⟨by simp,fun h=>absurd h (by omega)⟩,by simp⟩,Nat.le_refl _,by simp⟩
 ·simp at hcs
  have hlz:l≤zs.length:=by rw [hz];split <;> omega
  refine ⟨some a,l,c,zs.take l,hcs,⟨⟨by simp;omega,fun hp => ?_⟩,fun z hz'=>hwz z (List.mem_of_mem_take hz')⟩,hl,hm⟩;obtain ⟨b,o,s⟩:=a;have h0:=hcell 0 (by omega);have hs:s=none:=by simpa [Addr.add] using World.cell?_spot h0
  subst hs;refine ⟨b,o,rfl,World.block_lt_of_cell? w _ h0,fun j hj => ?_⟩;have hj':=hcell j (by omega);rw [XH] at hj';rw [hj',List.getElem?_map,List.getElem?_take,if_pos (by omega),List.getElem?_eq_getElem (show j<zs.length by omega)];simp [zF,List.getElem?_eq_getElem (show j<zs.length by omega)]
theorem kSt3 {t e E:TypeId} {fs:Array Field} {m:Nat} {v:Value} {y:DataW H × List MemPlace} (ht:P.underlying t=some (.slice e)) (he:P.underlying e=some (.struct fs))
  (hone:oneCellFields P fs=true) (hC:P.cellsOf e=fs.size) (hint:∀(j:Nat) (f:Field),fs[j]?=some f→P.underlying f.type=some (.int .i64)) (hs:fs.size=3)
  (h:DataW.trod enc P w base spare held m t [v]=some y):∃xs,(plst E 3 c3 xs).rd w v∧∀x∈xs,w3 x:=by
 obtain ⟨A,n,c,zss,rfl,h1,h2,h3,h4,h5⟩:=tSK ht he hone hC hint (by omega) h;rw [hs] at h4 h5;obtain ⟨xs,q1,q2⟩:=fl3 h3 h4 h5;exact ⟨xs,plst_mk WU Uh q1 h1 h2,q2⟩
end
open Go.ChangeShapes Go.WideShapes Go.ChangeAt Go.RowKit Go.Joins Go.Deep
section
variable {H:Type} {enc:TypeId × Value→H} {P:Program} {w:World} {base:Nat} {spare:Nat→Bool} {held:Bool}
end
open Go.ChangeShapes Go.WideShapes Go.ChangeAt Go.RowKit Go.Joins Go.Deep
section
variable {H:Type} {enc:TypeId × Value→H} {P:Program} {w:World} {base:Nat} {spare:Nat→Bool} {held:Bool}
end
open Go.ChangeShapes Go.WideShapes Go.ChangeAt Go.RowKit Go.Joins Go.Deep
section
variable {H:Type} {enc:TypeId × Value→H} {P:Program} {w:World} {base:Nat} {spare:Nat→Bool} {held:Bool}
theorem cells2 {w:World} {base:Nat} {a:Addr} {cs:List Value} (h:w.cells? base a 2=some cs):∃u0 u1,cs=[u0,u1]∧w.cell? a=some u0∧w.cell? (a.add 1)=some u1:=by
 obtain ⟨_,hcl,hat⟩:=World.cells?_some h
 match cs,hcl with
 | [u0,u1],_ =>
  have h0:=hat 0 (by omega);have h1:=hat 1 (by omega);simp at h0 h1;exact ⟨u0,u1,rfl,by simpa [Addr.add] using h0,h1⟩
theorem kAuths {t e ti:TypeId} {f0 f1:Field} {m:Nat} {v:Value} {y:DataW H × List MemPlace} (ht:P.underlying t=some (.slice e)) (he:P.underlying e=some (.struct #[f0,f1])) (ho:f0.offset=0∧f1.offset=1∧P.cellsOf f0.type=1∧P.cellsOf f1.type=1) (hce:P.cellsOf e=2)
  (h0:P.underlying f0.type=some (.slice ti)) (h1:P.underlying f1.type=some (.slice ti)) (hti:P.underlying ti=some (.int .i64)) (hci:P.cellsOf ti=1)
  (h:DataW.trod enc P w base spare held m t [v]=some y):∃xs:List AuM,(cauths xs).rd w v∧∀x∈xs,x.wf:=by
 rcases open_slice ht h with ⟨hcs,_⟩ | ⟨a,len,cap,mm,n,D,Pl,hcs,hb,hl,hm,hmm,hx,hi⟩
 ·simp at hcs
  refine ⟨[], ?_,by simp⟩;rw [hcs];exact Vp (s:=2) (vs:=[]) (fun _=>rfl) rfl (Nat.le_refl _) (by simp) (RdAll.nil w) ⟨rfl,fun h=>absurd h (by omega)⟩
 ·simp at hcs
  have hrow:∀i,i<len→∃vr:(Value × Value) × AuM,w.cell? (a.add (i*2))=some vr.1.1∧w.cell? ((a.add (i*2)).add 1)=some vr.1.2∧(cints vr.2.sh).rd w vr.1.1∧(cints vr.2.mc).rd w vr.1.2∧vr.2.wf:=fun i hil=>by
   obtain ⟨cs',hc',ht'⟩:=hi i (by rw [hmm];split <;> omega);rw [hce] at hc';obtain ⟨u0,u1,rfl,q0,q1⟩:=cells2 hc';obtain ⟨xs,n',_,_,_,hlen,hf⟩:=DataW.trod_struct he ht'
   match xs,hlen with
   | [y0,y1],_ =>
    have g0:=hf 0 f0 rfl;have g1:=hf 1 f1 rfl;rw [ho.1,ho.2.2.1] at g0;rw [ho.2.1,ho.2.2.2] at g1;simp at g0 g1;obtain ⟨z0,r0,w0⟩:=kInts h0 hti hci g0;obtain ⟨z1,r1,w1⟩:=kInts h1 hti hci g1;exact ⟨((u0,u1),⟨z0,z1⟩),q0,q1,r0,r1,w0,w1⟩
  obtain ⟨vrs,hvl,hv⟩:=Qt _ len hrow;refine ⟨vrs.map (·.2), ?_,fun r hr => ?_⟩
  ·rw [hcs]
   have hfv:∀i (vr:(Value × Value) × AuM),vrs[i]?=some vr→(vrs.flatMap fun x=>[x.1.1,x.1.2])[i*2]?=some vr.1.1∧(vrs.flatMap fun x=>[x.1.1,x.1.2])[i*2+1]?=some vr.1.2:=fun i vr hvr=>by
    have e0:=YL (sz:=2) (F:=fun x:(Value × Value) × AuM=>[x.1.1,x.1.2]) (fun _=>rfl) vrs i 0 (by omega);have e1:=YL (sz:=2) (F:=fun x:(Value × Value) × AuM=>[x.1.1,x.1.2]) (fun _=>rfl) vrs i 1 (by omega);rw [hvr] at e0 e1;exact ⟨e0,e1⟩
   have hlv:(vrs.flatMap fun x=>[x.1.1,x.1.2]).length=vrs.length*2:=ZI (sz:=2) (fun _=>rfl) vrs;have hlc:((vrs.map (·.2)).flatMap cauth).length=vrs.length*2:=by rw [ZI (sz:=2) (fun _=>rfl),List.length_map]
   refine Vp (s:=2) (vs:=vrs.flatMap fun x=>[x.1.1,x.1.2]) (fun _=>rfl) (by simp [hvl]) hl hm ⟨by rw [hlv];exact hlc.symm,fun i c u hc hu => ?_⟩ ⟨by rw [hlv,hvl],fun hp => ?_⟩
   ·have hi2:i<vrs.length*2:=by rw [← hlc];exact (List.getElem?_eq_some_iff.1 hc).1
    have hd:i / 2<vrs.length:=by omega
    have hvr:vrs[i / 2]?=some vrs[i / 2]:=List.getElem?_eq_getElem hd;obtain ⟨_,_,r0,r1,_⟩:=hv _ _ hvr;obtain ⟨e0,e1⟩:=hfv _ _ hvr;rw [Yx (sz:=2) (fun _=>rfl) (by omega) (vrs.map (·.2)),List.getElem?_map,hvr] at hc
    rcases Nat.lt_or_ge (i % 2) 1 with h6 | h6
    ·have h7:i % 2=0:=by omega
     rw [h7] at hc;have h8:i=i / 2*2:=by omega
     rw [h8] at hu;rw [e0] at hu;simp at hc;injection hu with hu;subst hu;subst hc;exact r0
    ·have h7:i % 2=1:=by omega
     rw [h7] at hc;have h8:i=i / 2*2+1:=by omega
     rw [h8] at hu;rw [e1] at hu;simp at hc;injection hu with hu;subst hu;subst hc;exact r1
   ·obtain ⟨b,o,s⟩:=a
    have hv0:vrs[0]?=some (vrs[0]'(by omega)):=List.getElem?_eq_getElem (by omega);have h0:=(hv 0 _ hv0).1;have hs:s=none:=by simpa [Addr.add] using World.cell?_spot h0
    subst hs;rw [XH] at h0;refine ⟨b,o,rfl,World.block_lt_of_cell? w _ h0,fun j hj => ?_⟩;have hd:j / 2<vrs.length:=by omega
    have hvr:vrs[j / 2]?=some vrs[j / 2]:=List.getElem?_eq_getElem hd;obtain ⟨p0,p1,_⟩:=hv _ _ hvr;obtain ⟨e0,e1⟩:=hfv _ _ hvr;rw [XH] at p0 p1;rw [XH] at p1
    rcases Nat.lt_or_ge (j % 2) 1 with h6 | h6
    ·have h8:j=j / 2*2:=by omega
     rw [h8,p0,e0]
    ·have h8:j=j / 2*2+1:=by omega
     rw [h8,show o+(j / 2*2+1)=o+j / 2*2+1 by omega,p1,e1]
  ·obtain ⟨vr,hvr,rfl⟩:=List.mem_map.1 hr
   obtain ⟨i,hi⟩:=List.mem_iff_getElem?.1 hvr;exact (hv i vr hi).2.2.2.2
theorem array9_ {α:Type} {cs:Array α} (h:cs.size=9):∃c0 c1 c2 c3 c4 c5 c6 c7 c8,cs=#[c0,c1,c2,c3,c4,c5,c6,c7,c8]:=by
 obtain ⟨l⟩:=cs
 match l,h with
 | [c0,c1,c2,c3,c4,c5,c6,c7,c8],_=>exact ⟨c0,c1,c2,c3,c4,c5,c6,c7,c8,rfl⟩
def lay9 (P:Program) (f0 f1 f2 f3 f4 f5 k0 k1 a0 a1 a2:Field):Bool :=
 [(f0,0,2),(f1,2,3),(f2,5,1),(f3,6,1),(f4,7,1),(f5,8,1),(k0,0,1),(k1,1,1),(a0,0,1),(a1,1,1),(a2,2,1)].all fun x=>x.1.offset == x.2.1&&P.cellsOf x.1.type == x.2.2
theorem open_eng {r:Reach} {b0:Nat} {t:TypeId} {f0 f1 f2 f3 f4 f5 k0 k1 a0 a1 a2:Field} {v:Value} {d:DataW H} {p:List MemPlace} (hs:P.underlying t=some (.struct #[f0,f1,f2,f3,f4,f5])) (hk:P.underlying f0.type=some (.struct #[k0,k1])) (ha:P.underlying f1.type=some (.struct #[a0,a1,a2]))
  (hl:lay9 P f0 f1 f2 f3 f4 f5 k0 k1 a0 a1 a2=true) (hC:P.cellsOf t=9) (hv:Value.okWide P w r b0 t v) (h:DataW.Trod enc P w base spare held t v d p) :
  ∃(c0 c1 c2 c3 c4 c5 c6 c7 c8:Value) (n:Nat) (y0 y1 y2 y3 y4 y5 y6 y7 y8:DataW H × List MemPlace),v=.agg #[c0,c1,c2,c3,c4,c5,c6,c7,c8]∧DataW.trod enc P w base spare held n k0.type [c0]=some y0∧DataW.trod enc P w base spare held n k1.type [c1]=some y1∧DataW.trod enc P w base spare held n a0.type [c2]=some y2∧DataW.trod enc P w base spare held n a1.type [c3]=some y3∧DataW.trod enc P w base spare held n a2.type [c4]=some y4 ∧
   DataW.trod enc P w base spare held (n+1) f2.type [c5]=some y5∧DataW.trod enc P w base spare held (n+1) f3.type [c6]=some y6∧DataW.trod enc P w base spare held (n+1) f4.type [c7]=some y7∧DataW.trod enc P w base spare held (n+1) f5.type [c8]=some y8:=by
 obtain ⟨cs,rfl,hsz⟩:=okWide_struct hs hv;obtain ⟨c0,c1,c2,c3,c4,c5,c6,c7,c8,rfl⟩:=array9_ (hsz.trans hC);obtain ⟨fuel,hf⟩:=h;simp [lay9] at hl;obtain ⟨⟨o0,s0⟩,⟨o1,s1⟩,⟨o2,s2⟩,⟨o3,s3⟩,⟨o4,s4⟩,⟨o5,s5⟩,⟨p0,q0⟩,⟨p1,q1⟩,⟨r0,t0⟩,⟨r1,t1⟩,r2,t2⟩:=hl;obtain ⟨xs,n,_,_,_,hlen,hg⟩:=DataW.trod_struct hs hf
 match xs,hlen with
 | [x0,x1,x2,x3,x4,x5],_ =>
  have g0:=hg 0 f0 rfl;have g1:=hg 1 f1 rfl;have g2:=hg 2 f2 rfl;have g3:=hg 3 f3 rfl;have g4:=hg 4 f4 rfl;have g5:=hg 5 f5 rfl;rw [o0,s0] at g0;rw [o1,s1] at g1;rw [o2,s2] at g2;rw [o3,s3] at g3;rw [o4,s4] at g4;rw [o5,s5] at g5;simp [Value.cells] at g0 g1 g2 g3 g4 g5;obtain ⟨ks,n',rfl,_,_,hlk,hgk⟩:=DataW.trod_struct hk g0;obtain ⟨ls,n'',e'',_,_,hla,hga⟩:=DataW.trod_struct ha g1;obtain rfl:n'=n'':=by omega
  match ks,hlk,ls,hla with
  | [e0,e1],_,[e2,e3,e4],_ =>
   have b0:=hgk 0 k0 rfl;have b1:=hgk 1 k1 rfl;have b2:=hga 0 a0 rfl;have b3:=hga 1 a1 rfl;have b4:=hga 2 a2 rfl;rw [p0,q0] at b0;rw [p1,q1] at b1;rw [r0,t0] at b2;rw [r1,t1] at b3;rw [r2,t2] at b4;simp at b0 b1 b2 b3 b4;exact ⟨c0,c1,c2,c3,c4,c5,c6,c7,c8,n',e0,e1,e2,e3,e4,x2,x3,x4,x5,rfl,b0,b1,b2,b3,b4,g2,g3,g4,g5⟩
end
open Go.ChangeShapes Go.WideShapes Go.ChangeAt Go.RowKit Go.Joins Go.Deep
section
variable {H:Type} {enc:TypeId × Value→H} {P:Program} {w:World} {base:Nat} {spare:Nat→Bool} {held:Bool}
theorem trodAuth {ta ti:TypeId} {s0 s1:Field} {m:Nat} {u0 u1:Value} {y:DataW H × List MemPlace} (he:P.underlying ta=some (.struct #[s0,s1])) (ho:s0.offset=0∧s1.offset=1∧P.cellsOf s0.type=1∧P.cellsOf s1.type=1)
  (h0:P.underlying s0.type=some (.slice ti)) (h1:P.underlying s1.type=some (.slice ti)) (hti:P.underlying ti=some (.int .i64)) (hci:P.cellsOf ti=1)
  (h:DataW.trod enc P w base spare held m ta [u0,u1]=some y):∃x:AuM,(cints x.sh).rd w u0∧(cints x.mc).rd w u1∧x.wf:=by
 obtain ⟨xs,n',_,_,_,hlen,hf⟩:=DataW.trod_struct he h
 match xs,hlen with
 | [y0,y1],_ =>
  have g0:=hf 0 s0 rfl;have g1:=hf 1 s1 rfl;rw [ho.1,ho.2.2.1] at g0;rw [ho.2.1,ho.2.2.2] at g1;simp at g0 g1;obtain ⟨z0,r0,w0⟩:=kInts h0 hti hci g0;obtain ⟨z1,r1,w1⟩:=kInts h1 hti hci g1;exact ⟨⟨z0,z1⟩,r0,r1,w0,w1⟩
def layT (P:Program) (f0 f1 f2 s0 s1:Field):Bool :=
 f0.offset == 0&&f1.offset == 2&&f2.offset == 4&&P.cellsOf f0.type == 2&&P.cellsOf f1.type == 2&&P.cellsOf f2.type == 2&&s0.offset == 0&&s1.offset == 1&&P.cellsOf s0.type == 1&&P.cellsOf s1.type == 1
abbrev Six:={ l:List Value // l.length=6 }
theorem kTrips {t e ti:TypeId} {f0 f1 f2 s0 s1:Field} {m:Nat} {v:Value} {y:DataW H × List MemPlace} (ht:P.underlying t=some (.slice e)) (he:P.underlying e=some (.struct #[f0,f1,f2])) (hl9:layT P f0 f1 f2 s0 s1=true) (hce:P.cellsOf e=6)
  (k0:P.underlying f0.type=some (.struct #[s0,s1])) (k1:P.underlying f1.type=some (.struct #[s0,s1])) (k2:P.underlying f2.type=some (.struct #[s0,s1]))
  (h0:P.underlying s0.type=some (.slice ti)) (h1:P.underlying s1.type=some (.slice ti)) (hti:P.underlying ti=some (.int .i64)) (hci:P.cellsOf ti=1)
  (h:DataW.trod enc P w base spare held m t [v]=some y):∃xs:List TrM,(Zs xs).rd w v∧∀x∈xs,x.a.wf∧x.b.wf∧x.c.wf:=by
 unfold layT at hl9;simp only [Bool.and_eq_true,beq_iff_eq] at hl9;obtain ⟨⟨⟨⟨⟨⟨⟨⟨⟨a0,a1⟩,a2⟩,a3⟩,a4⟩,a5⟩,a6⟩,a7⟩,a8⟩,a9⟩:=hl9;have ho:s0.offset=0∧s1.offset=1∧P.cellsOf s0.type=1∧P.cellsOf s1.type=1:=⟨a6,a7,a8,a9⟩
 rcases open_slice ht h with ⟨hcs,_⟩ | ⟨a,len,cap,mm,n,D,Pl,hcs,hb,hl,hm,hmm,hx,hi⟩
 ·simp at hcs
  refine ⟨[], ?_,by simp⟩;rw [hcs];exact Vp (s:=6) (vs:=[]) (fun _=>rfl) rfl (Nat.le_refl _) (by simp) (RdAll.nil w) ⟨rfl,fun h=>absurd h (by omega)⟩
 ·simp at hcs
  have hrow:∀i,i<len→∃vr:Six × TrM,(∀j,j<6→w.cell? ((a.add (i*6)).add j)=vr.1.1[j]?)∧RdAll w (ctriple vr.2) vr.1.1∧vr.2.a.wf∧vr.2.b.wf∧vr.2.c.wf:=fun i hil=>by
   obtain ⟨cs',hc',ht'⟩:=hi i (by rw [hmm];split <;> omega);rw [hce] at hc';obtain ⟨_,hcl,hat⟩:=World.cells?_some hc'
   match cs',hcl with
   | [u0,u1,u2,u3,u4,u5],_ =>
    obtain ⟨xs,n',_,_,_,hlen,hf⟩:=DataW.trod_struct he ht'
    match xs,hlen with
    | [y0,y1,y2],_ =>
     have g0:=hf 0 f0 rfl;have g1:=hf 1 f1 rfl;have g2:=hf 2 f2 rfl;rw [a0,a3] at g0;rw [a1,a4] at g1;rw [a2,a5] at g2;simp at g0 g1 g2;obtain ⟨x0,p0,p1,q0⟩:=trodAuth k0 ho h0 h1 hti hci g0;obtain ⟨x1,p2,p3,q1⟩:=trodAuth k1 ho h0 h1 hti hci g1;obtain ⟨x2,p4,p5,q2⟩:=trodAuth k2 ho h0 h1 hti hci g2;refine ⟨(⟨[u0,u1,u2,u3,u4,u5],rfl⟩,⟨x0,x1,x2⟩),fun j hj => ?_, ?_,q0,q1,q2⟩
     ·have:=hat j hj
      rw [this]
     ·exact RdAll.cons p0 (RdAll.cons p1 (RdAll.cons p2 (RdAll.cons p3 (RdAll.cons p4 (RdAll.cons p5 (RdAll.nil w))))))
  obtain ⟨vrs,hvl,hv⟩:=Qt _ len hrow;have hF:∀x:Six × TrM,x.1.1.length=6:=fun x=>x.1.2;refine ⟨vrs.map (·.2), ?_,fun r hr => ?_⟩
  ·rw [hcs]
   have hlv:(vrs.flatMap fun x=>x.1.1).length=vrs.length*6:=ZI (sz:=6) hF vrs;have hlc:((vrs.map (·.2)).flatMap ctriple).length=vrs.length*6:=by rw [ZI (sz:=6) (fun _=>rfl),List.length_map]
   refine Vp (s:=6) (vs:=vrs.flatMap fun x=>x.1.1) (fun _=>rfl) (by simp [hvl]) hl hm ⟨by rw [hlv];exact hlc.symm,fun i c u hc hu => ?_⟩ ⟨by rw [hlv,hvl],fun hp => ?_⟩
   ·have hi2:i<vrs.length*6:=by rw [← hlc];exact (List.getElem?_eq_some_iff.1 hc).1
    have hd:i / 6<vrs.length:=by omega
    have hvr:vrs[i / 6]?=some vrs[i / 6]:=List.getElem?_eq_getElem hd;obtain ⟨_,hrd,_⟩:=hv _ _ hvr;rw [Yx (sz:=6) (fun _=>rfl) (by omega) (vrs.map (·.2)),List.getElem?_map,hvr] at hc;rw [Yx (sz:=6) hF (by omega) vrs,hvr] at hu;exact hrd.2 _ c u hc hu
   ·obtain ⟨b,o,s⟩:=a
    have hv0:vrs[0]?=some (vrs[0]'(by omega)):=List.getElem?_eq_getElem (by omega);have h0:=(hv 0 _ hv0).1 0 (by omega);have h00:(vrs[0]'(by omega)).1.1[0]?=some ((vrs[0]'(by omega)).1.1[0]'(by rw [hF];omega)):=List.getElem?_eq_getElem (by rw [hF];omega);rw [h00] at h0;have hs:s=none:=by simpa [Addr.add] using World.cell?_spot h0
    subst hs;rw [XH,XH] at h0;refine ⟨b,o,rfl,World.block_lt_of_cell? w _ h0,fun j hj => ?_⟩;have hd:j / 6<vrs.length:=by omega
    have hvr:vrs[j / 6]?=some vrs[j / 6]:=List.getElem?_eq_getElem hd;have p0:=(hv _ _ hvr).1 (j % 6) (by omega);rw [XH,XH] at p0;rw [Yx (sz:=6) hF (by omega) vrs,hvr,show o+j=o+j / 6*6+j % 6 by omega,p0];rfl
  ·obtain ⟨vr,hvr,rfl⟩:=List.mem_map.1 hr
   obtain ⟨i,hi⟩:=List.mem_iff_getElem?.1 hvr;exact (hv i vr hi).2.2
end
end Go.Proofs.YthaadgdeadbhkaaGreat
