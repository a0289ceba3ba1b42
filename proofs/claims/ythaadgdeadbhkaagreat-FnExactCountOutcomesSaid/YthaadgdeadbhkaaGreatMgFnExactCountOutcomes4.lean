/-
 Contracts of the laws' small helpers on slices of bools: eqBoolS,heldBoolS,markBoolS.
-/
import Derived.Test.YthaadgdeadbhkaaGreatMgFnExactCountOutcomes3
open Go.RowKit
set_option linter.unusedVariables false
set_option linter.unusedSimpArgs false
namespace Go.Proofs.YthaadgdeadbhkaaGreat
def Bools (w:World) (A:Option Addr) (n:Nat) (zs:List Bool):Prop:=Rd w 1 A n (zs.map Value.bool)
theorem Bools.len {w:World} {A:Option Addr} {n:Nat} {zs:List Bool} (h:Bools w A n zs):zs.length=n:=by simpa using h.1
theorem Bools.at_ {w:World} {A:Option Addr} {n:Nat} {zs:List Bool} (h:Bools w A n zs) (hn:0<n) :
  ∃b o,A=some ⟨b,o,none⟩∧b<w.heap.size∧∀j,j<n→w.cell? ⟨b,o+j,none⟩=some (.bool (zs.getD j false)):=by
 obtain ⟨b,o,e,hb,hc⟩:=h.2 hn;refine ⟨b,o,e,hb,fun j hj => ?_⟩;have hl:=h.len;rw [hc j (by omega)];simp [List.getElem?_map,zF,List.getElem?_eq_getElem (show j<zs.length by omega)]
def szO (l m:Nat):Int:=if m≤l then ((l - m:Nat):Int) else -1
theorem Qa {l m:Nat} (h:m≤l):szO l m=((l - m:Nat):Int):=if_pos h
theorem Kv {l m:Nat} (h:l<m):szO l m = -1:=if_neg (by omega)
theorem Zi (c:CS) {w w':World} {F:List Nat} {v:Value} (h:c.own w F v) (hg:w.grownBy w' none):c.own w' F v:=c.kept h fun g hg'=>hg.block g (c.lt h g hg') (by simp)
theorem Xk (c:CS) {w:World} {F:List Nat} {v:Value} (h:c.own w F v) (p:Addr) (hp:p.block∉F) (u:Value):c.own (w.setCell p u) F v:=c.kept h fun g hg'=>Below.heap_setCell w p u g (fun e=>hp (e ▸ hg'))
theorem Yv (c:CS) {w w':World} {F:List Nat} {S:Nat→Prop} {v:Value} (h:c.own w F v) (k:Chg S w w') (hs:∀g∈F,¬S g):c.own w' F v:=c.kept h fun g hg'=>k.block g (c.lt h g hg') (hs g hg')
theorem Qw {w w':World} {cs:List CS} {vs:List Value} {Fs:List (List Nat)} (h:OwnAll w cs vs Fs) (hg:w.grownBy w' none):OwnAll w' cs vs Fs:=h.kept fun g hg'=>hg.block g (h.lt g hg') (by simp)
theorem YW {w w':World} {g:Nat} {t:TypeId} {cs:Array Value} {S:Nat→Prop} (h:Blk w g t cs) (k:Chg S w w') (hs:¬S g):Blk w' g t cs:=(k.block g h.lt hs).trans h
abbrev csteps (xs:List (Int × Int × Int)):CS:=plst 102 3 c3 xs
theorem XL (xs:List (Int)) (v:Value) (w:World) (h:(cints xs).rd w v) (hn:xs.length≤1048576) :
  Calls Tryz.prog 12 #[v] w fun e w'=>∃u F,e=.returned u∧(cints xs).own w' F u∧(∀g∈F,w.heap.size≤g)∧w.grownBy w' none:=by
 obtain ⟨A,c,rfl,hc,hm,hI⟩:=ZP (s:=1) (fun _=>rfl) (by omega) h;refine (toIntS_c A _ c xs w (by have:=hI.rd;rw [Xj] at this;exact this) (by omega)).mono ?_;rintro e w' ⟨g,rfl,ho,hg⟩;have hlt:=fun g' hg'=>(ho.lt g' hg').1;exact ⟨_,_,rfl,(by rw [← Xj] at ho;exact Vf (s:=1) (fun _=>rfl) (by omega) Jt ho),fun g' hg'=>hlt g' (by simpa using hg'),hg⟩
theorem VF (xs:List (Int)) (v u:Value) (w:World) (h:(cints xs).rd w v) (k:(cints xs).rd w u) (hn:xs.length≤1048576) :
  Calls Tryz.prog 15 #[v,u] w fun e w'=>e=.returned (.bool true)∧w.grownBy w' none:=by
 obtain ⟨A,c,rfl,hc,hm,hI⟩:=ZP (s:=1) (fun _=>rfl) (by omega) h;obtain ⟨B,d,rfl,hd,_,hJ⟩:=ZP (s:=1) (fun _=>rfl) (by omega) k;refine (eqIntS_c A B _ _ c d xs xs w (by have:=hI.rd;rw [Xj] at this;exact this) (by have:=hJ.rd;rw [Xj] at this;exact this) (by omega) (by omega)).mono ?_;rintro e w' ⟨rfl,q,rfl⟩;exact ⟨by rw [beq_self_eq_true],gbDN (gbR _ _) _⟩
theorem szIntS_k (xs:List (Int)) (v:Value) (l:Nat) (w:World) (h:(cints xs).rd w v) (hl:l≤1048576) :
  Calls Tryz.prog 37 #[v,.int .i64 l] w fun e w'=>e=.returned (.int .i64 (szO l xs.length))∧w.grownBy w' none:=by
 obtain ⟨A,c,rfl,hc,hm,hI⟩:=ZP (s:=1) (fun _=>rfl) (by omega) h;have hn:xs.length≤9223372036854775807:=by unfold maxLen at hm;omega
 clear hI hm;generalize xs.length=n at *
 by_cases hb:n≤l
 ·have HB:=zH hb
  have h':¬((l:Int) - (n:Int)<0):=by omega
  go_enter Tryz.func37,Tryz.ntmps37
  go_wp2_with fail;go_ret;exact ⟨retI (by rw [Qa HB.out];omega),gbR _ _⟩
 ·have HB:=zH hb
  have h':(l:Int) - (n:Int)<0:=by omega
  go_enter Tryz.func37,Tryz.ntmps37
  go_wp2_with fail;go_ret;exact ⟨retI (by rw [Kv (by have:=HB.out;omega)]),gbR _ _⟩
theorem VG (xs:List (Int)) (v:Value) (F:List Nat) (k0:Int) (w:World) (h:(cints xs).own w F v) (hn:xs.length≤1048576) (h0:0≤k0) (h1:k0≤549755813888) :
  Calls Tryz.prog 20 #[v,.int .i64 k0] w fun e w'=>e=.returned (.int .i64 (k0+xs.length))∧(cints (marks k0 xs.length)).own w' F v∧Chg (fun g=>g∈F) w w':=by
 obtain ⟨A,c,rfl,hF,hr⟩:=QX (s:=1) (fun _=>rfl) (by omega) h;refine (markIntS_c 0 A _ c xs k0 w (by have:=hr 0 (fun _ _=>Nat.zero_le _);rw [Xj] at this;exact this) (by omega) h0 (by omega)).mono ?_;rintro e w' ⟨rfl,ho,hg⟩;subst hF;exact ⟨rfl,(by rw [← Xj] at ho;exact Vf (s:=1) (fun _=>rfl) (by omega) Jt ho),Chg.of hg fun g hg'=>by rw [← ownB A xs.length c] at hg';rw [hg'];simp⟩
theorem heldIntS_k (n:Nat) (v:Value) (k0:Int) (w:World) (h:(cints (marks k0 n)).rd w v) (hn:n≤1048576) (h0:0≤k0) (h1:k0≤549755813888) :
  Calls Tryz.prog 21 #[v,.int .i64 k0] w fun e w'=>e=.returned (.int .i64 (k0+n))∧w.grownBy w' none:=by
 obtain ⟨A,c,rfl,hc,hm,hI⟩:=ZP (s:=1) (fun _=>rfl) (by omega) h;have hl:(marks k0 n).length=n:=by simp [marks]
 rw [hl] at hI ⊢;refine (heldIntS_c A n c k0 w (by have:=hI.rd;rw [Xj] at this;exact this) (by omega) h0 (by omega)).mono ?_;rintro e w' ⟨rfl,rfl⟩;exact ⟨rfl,gbR _ _⟩
theorem toStepS_k (xs:List (Int × Int × Int)) (v:Value) (w:World) (h:(csteps xs).rd w v) (hn:xs.length≤1048576) :
  Calls Tryz.prog 48 #[v] w fun e w'=>∃u F,e=.returned u∧(csteps xs).own w' F u∧(∀g∈F,w.heap.size≤g)∧w.grownBy w' none:=by
 obtain ⟨A,c,rfl,hc,hm,hI⟩:=ZP (s:=3) (fun _=>rfl) (by omega) h;refine (toStepS_c A _ c xs w hI (by omega)).mono ?_;rintro e w' ⟨g,rfl,ho,hg⟩;have hlt:=fun g' hg'=>(ho.lt g' hg').1;exact ⟨_,_,rfl,(Vf (s:=3) (fun _=>rfl) (by omega) Ku ho),fun g' hg'=>hlt g' (by simpa using hg'),hg⟩
theorem eqStepS_k (xs:List (Int × Int × Int)) (v u:Value) (w:World) (h:(csteps xs).rd w v) (k:(csteps xs).rd w u) (hn:xs.length≤1048576) :
  Calls Tryz.prog 57 #[v,u] w fun e w'=>e=.returned (.bool true)∧w.grownBy w' none:=by
 obtain ⟨A,c,rfl,hc,hm,hI⟩:=ZP (s:=3) (fun _=>rfl) (by omega) h;obtain ⟨B,d,rfl,hd,_,hJ⟩:=ZP (s:=3) (fun _=>rfl) (by omega) k;exact eqStepS_c A B _ c d xs w hI hJ (by omega)
theorem Kw (xs:List (Int × Int × Int)) (v:Value) (l:Nat) (w:World) (h:(csteps xs).rd w v) (hl:l≤1048576) :
  Calls Tryz.prog 38 #[v,.int .i64 l] w fun e w'=>e=.returned (.int .i64 (szO l xs.length))∧w.grownBy w' none:=by
 obtain ⟨A,c,rfl,hc,hm,hI⟩:=ZP (s:=3) (fun _=>rfl) (by omega) h;have hn:xs.length≤9223372036854775807:=by unfold maxLen at hm;omega
 clear hI hm;generalize xs.length=n at *
 by_cases hb:n≤l
 ·have HB:=zH hb
  have h':¬((l:Int) - (n:Int)<0):=by omega
  go_enter Tryz.func38,Tryz.ntmps38
  go_wp2_with fail;go_ret;exact ⟨retI (by rw [Qa HB.out];omega),gbR _ _⟩
 ·have HB:=zH hb
  have h':(l:Int) - (n:Int)<0:=by omega
  go_enter Tryz.func38,Tryz.ntmps38
  go_wp2_with fail;go_ret;exact ⟨retI (by rw [Kv (by have:=HB.out;omega)]),gbR _ _⟩
theorem markStepS_k (xs:List (Int × Int × Int)) (v:Value) (F:List Nat) (k0:Int) (w:World) (h:(csteps xs).own w F v) (hn:xs.length≤1048576) (h0:0≤k0) (h1:k0≤549755813888) :
  Calls Tryz.prog 58 #[v,.int .i64 k0] w fun e w'=>e=.returned (.int .i64 (k0+3*xs.length))∧(csteps (mk3 k0 xs.length)).own w' F v∧Chg (fun g=>g∈F) w w':=by
 obtain ⟨A,c,rfl,hF,hr⟩:=QX (s:=3) (fun _=>rfl) (by omega) h;refine (markStepS_c 0 A _ c xs k0 w (hr 0 (fun _ _=>Nat.zero_le _)) (by omega) h0 (by omega)).mono ?_;rintro e w' ⟨rfl,ho,hg⟩;subst hF;exact ⟨rfl,(Vf (s:=3) (fun _=>rfl) (by omega) Ku ho),Chg.of hg fun g hg'=>by rw [← ownB A xs.length c] at hg';rw [hg'];simp⟩
theorem gdT' {w w':World} {r:Option Nat} (h:w.drew.grownBy w' r):w.grownBy w' r:=gbT (gbD (gbR w r)) h
def AggR (w:World) (cs:List CS) (v:Value):Prop:=∃vs:List Value,v=.agg vs.toArray∧RdAll w cs vs
def AggO (w:World) (cs:List CS) (F:List Nat) (v:Value):Prop:=∃(vs:List Value) (Fs:List (List Nat)),v=.agg vs.toArray∧OwnAll w cs vs Fs∧F=Fs.flatten
theorem AggR.grow {w w':World} {cs:List CS} {v:Value} (h:AggR w cs v) (hg:w.grownBy w' none):AggR w' cs v:=by
 obtain ⟨vs,h1,h2⟩:=h;exact ⟨vs,h1,h2.grow hg⟩
theorem AggO.rd {w:World} {cs:List CS} {F:List Nat} {v:Value} (h:AggO w cs F v):AggR w cs v:=by
 obtain ⟨vs,Fs,h1,h2,_⟩:=h;exact ⟨vs,h1,h2.rd⟩
theorem AggO.lt {w:World} {cs:List CS} {F:List Nat} {v:Value} (h:AggO w cs F v):∀g∈F,g<w.heap.size:=by
 obtain ⟨vs,Fs,h1,h2,rfl⟩:=h;exact h2.lt
theorem AggO.kept {w w':World} {cs:List CS} {F:List Nat} {v:Value} (h:AggO w cs F v) (hk:∀g∈F,w'.heap[g]?=w.heap[g]?):AggO w' cs F v:=by
 obtain ⟨vs,Fs,h1,h2,rfl⟩:=h;exact ⟨vs,Fs,h1,h2.kept hk,rfl⟩
theorem AggO.grow {w w':World} {cs:List CS} {F:List Nat} {v:Value} (h:AggO w cs F v) (hg:w.grownBy w' none):AggO w' cs F v:=h.kept fun g hg'=>hg.block g (h.lt g hg') (by simp)
theorem AggO.chg {w w':World} {cs:List CS} {F:List Nat} {S:Nat→Prop} {v:Value} (h:AggO w cs F v) (k:Chg S w w') (hs:∀g∈F,¬S g):AggO w' cs F v:=h.kept fun g hg'=>k.block g (h.lt g hg') (hs g hg')
theorem own_n {w:World} {b:Nat} {e:TypeId} {s n n' c:Nat} {a:Addr} {vs:List Value} (h:w.ownsRow b e s (.slice (some a) n c) n' vs):n'=n:=by
 rcases h.2 with ⟨h1,_⟩ | ⟨g,cap,cur,hv,_⟩
 ·injection h1 with h1;cases h1
 ·injection hv with _ h1;exact h1.symm
section
variable {e:TypeId} {s:Nat} {cs:List CS} {w w':World} {F:List Nat} {v:Value}
theorem row_own_slice (hs:0<s) (h:(row e s cs).own w F v) (hi:0<cs.length):∃g n c,v=.slice (some ⟨g,0,none⟩) n c∧g∈F:=by
 obtain ⟨n,vs,Fs,h1,h2,h3,h4,h5⟩:=h
 rcases h2.2 with ⟨_,h0⟩ | ⟨g,cap,cur,hv,_⟩
 ·subst h0;simp at h1;rw [h1] at hi;simp at hi
 ·exact ⟨g,n,cap,hv,by rw [h4,hv];simp [Value.ownBlock]⟩
theorem row_cell {g n c:Nat} (h:(row e s cs).own w F (.slice (some ⟨g,0,none⟩) n c)) {i:Nat} {d:CS} (hd:cs[i]?=some d) :
  ∃u Fi,w.cell? ⟨g,i,none⟩=some u∧w.frozen? ⟨g,i,none⟩=false∧d.own w Fi u∧(∀x∈Fi,x∈F)∧g∉Fi∧g∈F:=by
 obtain ⟨n',vs,Fs,h1,h2,h3,h4,h5⟩:=h;obtain rfl:=own_n h2;have hi:=(List.getElem?_eq_some_iff.1 hd).1;obtain ⟨d',u,Fi,e1,e2,e3,ho⟩:=h3.get hi;rw [hd] at e1;injection e1 with e1;subst e1;have hcell:=h2.cellAt i (by rw [← h1];exact hi);have hfr:=h2.frozenAt i;have hmem:∀x∈Fi,x∈Fs.flatten:=fun x hx=>VE e3 hx
 have hg:g∉Fs.flatten:=fun hx=>by
  rw [h4,List.nodup_append] at h5;exact h5.2.2 g (by simp [Value.ownBlock]) g hx rfl
 exact ⟨u,Fi,hcell.trans e2,hfr,ho,fun x hx=>by rw [h4];exact List.mem_append_right _ (hmem x hx),fun hx=>hg (hmem g hx),by rw [h4];simp [Value.ownBlock]⟩
theorem row_set {g n c:Nat} (h:(row e s cs).own w F (.slice (some ⟨g,0,none⟩) n c)) {i:Nat} (hi:i<cs.length) {d:CS} {u:Value} {Fc:List Nat} (hu:d.own w Fc u) (hd:∀x∈Fc,x∉F) :
  ∃F',(row e s (cs.set i d)).own (w.setCell ⟨g,i,none⟩ u) F' (.slice (some ⟨g,0,none⟩) n c)∧(∀x∈F',x∈F∨x∈Fc):=by
 obtain ⟨n',vs,Fs,h1,h2,h3,h4,h5⟩:=h;obtain rfl:=own_n h2;have hst:=h2.stored i u;have hgF:g∈F:=by rw [h4];simp [Value.ownBlock]
 have hg:g∉Fs.flatten:=fun hx=>by
  rw [h4,List.nodup_append] at h5;exact h5.2.2 g (by simp [Value.ownBlock]) g hx rfl
 have hgc:g∉Fc:=fun hx=>hd g hx hgF;have hi':i<Fs.length:=by rw [h3.lf];exact hi
 have hset:=h3.set_ (i:=i) hi (Xk d hu ⟨g,i,none⟩ hgc u) (fun x hx _=>Below.heap_setCell w ⟨g,i,none⟩ u x (fun e=>hg (by have e':x=g:=e;rw [e'] at hx;exact hx))) (fun x hx hx'=>absurd (by rw [h4];exact List.mem_append_right _ hx') (hd x hx));refine ⟨_,⟨n',vs.set i u,Fs.set i Fc,by rw [List.length_set];exact h1,hst.1,hset,rfl, ?_⟩,fun x hx => ?_⟩
 ·rw [List.nodup_append]
  refine ⟨by simp [Value.ownBlock],hset.nd,fun a ha b hb e => ?_⟩;simp [Value.ownBlock] at ha;subst ha;subst e
  rcases Vp hi' hb with h6 | h6
  ·exact hg h6
  ·exact hgc h6
 ·rcases List.mem_append.1 hx with hx | hx
  ·exact .inl (by rw [h4];exact List.mem_append_left _ hx)
  ·rcases Vp hi' hx with h6 | h6
   ·exact .inl (by rw [h4];exact List.mem_append_right _ h6)
   ·exact .inr h6
end
section
variable {e:TypeId} {s:Nat} {cs:List CS} {w w':World} {F:List Nat}
end
theorem row_push {e:TypeId} {s:Nat} {cs:List CS} {w:World} {F:List Nat} {v:Value} (h:(row e s cs).own w F v) :
  ∃n vs,cs.length=n*s∧w.ownsRow 0 e s v n vs∧(∀g,v.ownBlock=some g→g∈F)∧∀(w':World) (v':Value) (m:Nat) (us:List Value) (ds:List CS) (Ds:List (List Nat)),ds.length=m*s→w'.ownsRow 0 e s v' (n+m) (vs ++ us)→w.grownBy w' v.ownBlock→(∀g,v'.ownBlock=some g→some g=v.ownBlock∨w.heap.size≤g)→OwnAll w' ds us Ds→(∀x∈Ds.flatten,x∉F)→(∀g,v'.ownBlock=some g→g∉Ds.flatten) →
   ∃F',(row e s (cs ++ ds)).own w' F' v'∧∀x∈F',x∈F∨w.heap.size≤x∨x∈Ds.flatten:=by
 obtain ⟨n,vs,Fs,h1,h2,h3,h4,h5⟩:=h;refine ⟨n,vs,h1,h2,fun g hg=>by rw [h4,hg];simp,fun w' v' m us ds Ds hl ho hg hv hd hF hv2 => ?_⟩
 have hvF:∀g,v.ownBlock=some g→g∉Fs.flatten:=fun g e hx=>by
  rw [h4,List.nodup_append] at h5;exact h5.2.2 g (by rw [e];simp) g hx rfl
 have h3':OwnAll w' cs vs Fs:=h3.kept fun g hg'=>hg.block g (h3.lt g hg') (fun e=>hvF g e.symm hg');have hap:=h3'.append hd (fun g hg' hx=>hF g hx (by rw [h4];exact List.mem_append_right _ hg'));refine ⟨v'.ownBlock.toList ++ (Fs ++ Ds).flatten,⟨n+m,_,_,by rw [List.length_append,h1,hl,Nat.add_mul],ho,hap,rfl, ?_⟩,fun x hx => ?_⟩
 ·rw [List.nodup_append]
  refine ⟨by cases v'.ownBlock <;> simp,hap.nd,fun a ha b hb e => ?_⟩;subst e;have ha':v'.ownBlock=some a:=by simpa using ha
  rw [List.flatten_append] at hb
  rcases List.mem_append.1 hb with hb | hb
  ·rcases hv a ha' with h6 | h6
   ·exact hvF a h6.symm hb
   ·have:=h3.lt a hb;omega
  ·exact hv2 a ha' hb
 ·rcases List.mem_append.1 hx with hx | hx
  ·have hx':v'.ownBlock=some x:=by simpa using hx
   rcases hv x hx' with h6 | h6
   ·exact .inl (by rw [h4,← h6];simp)
   ·exact .inr (.inl h6)
  ·rw [List.flatten_append] at hx
   rcases List.mem_append.1 hx with hx | hx
   ·exact .inl (by rw [h4];exact List.mem_append_right _ hx)
   ·exact .inr (.inr hx)
theorem row_ob {e:TypeId} {s g:Nat} {cs:List CS} {w:World} {F:List Nat} {v:Value} (h:(row e s cs).own w F v) (hg:v.ownBlock=some g):g∈F:=by
 obtain ⟨n,vs,Fs,_,_,_,h4,_⟩:=h;rw [h4,hg];simp
section
variable {P:Program} {ops:Array Oper} {rest:List Oper} {o:Oper} {a:Act} {Q:Exit→Act→World→Prop}
theorem XT (wr:World) (g:Nat) (hgs:wr.heap.size=g) {t e:TypeId} {z:Value} {size bytes:Nat} (E:El P t e z size bytes) (hgd:o.guard=none) (s x:Operand)
  (ho:o.op=.call { callee:=.builtin .append,args:=#[s,x],argTypes:=#[t,t] }) (cs:Array Value) (hcs:cs.size=size) (h1:∀u∈cs.toList,u.oneCell'=true)
  (base:Nat) (v:Value) (n:Nat) (xs:List Value) (hown:wr.ownsRow base e size v n xs) (hs:a.eval s=v) (hx:a.eval x=.slice (some ⟨g,0,none⟩) 1 1)
  (hn:n+1≤maxLen) (hb:(n+1)*bytes≤140737488355328) (hbase:base≤wr.heap.size)
  (h:∀v' w',w'.ownsRow base e size v' (n+1) (xs ++ cs.toList)→(wr.alloc (.cells cs e)).grownBy w' v.ownBlock→(∀g,v'.ownBlock=some g→some g=v.ownBlock∨wr.heap.size<g)→wpList P ops Q rest (a.put o.dst v') w') :
  wpList P ops Q (o :: rest) a (wr.alloc (.cells cs e)):=by
 subst hgs;refine Xt (wr.alloc (.cells cs e)) E hgd s x ho base v n xs (hown.alloc _) hs ⟨wr.heap.size,0,none⟩ 1 1 cs.toList hx (by simpa using hcs) ?_ h1 hn hb (by simp;omega) fun v' w' k1 k2 k3 => ?_
 ·intro j u hu
  have hadd:(⟨wr.heap.size,0,none⟩:Addr).add j=⟨wr.heap.size,j,none⟩:=by unfold Addr.add;split <;> simp_all
  rw [hadd,cell_of_row _ _ j cs e (0,0) (heap_alloc_new wr _)]
  simpa using hu
 ·exact h v' w' k1 k2 fun g hg=>by
   rcases k3 g hg with h4 | h4
   ·exact .inl h4
   ·exact .inr (by simp at h4;omega)
end
theorem UC (c:CS) {w:World} {F:List Nat} {v:Value} (h:c.own w F v) (g i:Nat) (hp:g∉F) (u:Value):c.own (w.setCell ⟨g,i,none⟩ u) F v:=Xk c h ⟨g,i,none⟩ hp u
theorem chgS (w:World) (g i:Nat) (u:Value):Chg (fun x=>x=g) w (w.setCell ⟨g,i,none⟩ u) :=
 ⟨rfl,rfl,rfl,by simp [World.setCell],fun x _ hx=>Below.heap_setCell w ⟨g,i,none⟩ u x (fun e=>hx e)⟩
theorem Blk.chg {w w':World} {g:Nat} {t:TypeId} {cs:Array Value} {S:Nat→Prop} (h:Blk w g t cs) (k:Chg S w w') (hs:¬S g):Blk w' g t cs:=(k.block g h.lt hs).trans h
theorem Chg.cell {S:Nat→Prop} {w w':World} (k:Chg S w w') {g i:Nat} {v:Value} (h:w.cell? ⟨g,i,none⟩=some v) (hg:g<w.heap.size) (hs:¬S g):w'.cell? ⟨g,i,none⟩=some v:=by
 rw [← h];unfold World.cell?;rw [k.block g hg hs]
theorem Chg.frozen {S:Nat→Prop} {w w':World} (k:Chg S w w') {g i:Nat} {b:Bool} (h:w.frozen? ⟨g,i,none⟩=b) (hg:g<w.heap.size) (hs:¬S g):w'.frozen? ⟨g,i,none⟩=b:=by
 rw [← h];unfold World.frozen?;rw [k.block g hg hs]
theorem gbChg {a b c:World} {S:Nat→Prop} (h:a.grownBy b none) (k:Chg S b c) (hs:∀i,S i→a.heap.size≤i):a.grownBy c none:=Chg.new h k hs
def Zm (w:World) (g:Nat):Nat→List Value→World
 | _,[]=>w
 | i,u :: us=>Zm (w.setCell ⟨g,i,none⟩ u) g (i+1) us
theorem UD {g:Nat} {T:TypeId}:∀(us pre post:List Value) (w:World),Blk w g T (pre ++ post).toArray→post.length=us.length→Blk (Zm w g pre.length us) g T (pre ++ us).toArray
 | [],pre,post,w,h,hl=>by
  have:post=[]:=List.eq_nil_of_length_eq_zero hl;subst this;exact h
 | u :: us,pre,post,w,h,hl=>by
  cases post with
  | nil=>simp at hl
  | cons p post =>
   have h1:=h.set_ pre.length u
   have e:(pre ++ p :: post).toArray.setIfInBounds pre.length u=((pre ++ [u]) ++ post).toArray:=by
    apply Array.toList_inj.1;simp
   rw [e] at h1;have h2:=UD us (pre ++ [u]) post _ h1 (by simpa using hl)
   simpa [Zm] using h2
theorem Zd {w:World} {g:Nat} {T:TypeId} {cs:Array Value} (h:Blk w g T cs) (us:List Value) (hl:cs.size=us.length):Blk (Zm w g 0 us) g T us.toArray:=by
 have:=UD (g:=g) (T:=T) us [] cs.toList w (by simpa using h) (by simpa using hl)
 simpa using this
theorem Za (g:Nat):∀(us:List Value) (i:Nat) (w:World),Chg (fun y=>y=g) w (Zm w g i us)
 | [],_,w=>Chg.refl _ w
 | u :: us,i,w=>(chgS w g i u).trans (Za g us (i+1) _)
theorem chgF {w w':World} (h:Chg (fun _=>False) w w'):w.grownBy w' none:=⟨h.os,h.tape,h.output,h.size,fun i hi _=>h.block i hi (by simp)⟩
theorem chgD {g:Nat} {w w':World} (h:Chg (fun y=>y=g) w.drew w'):Chg (fun y=>y=g) w w':=⟨h.os,h.tape,h.output,h.size,h.block⟩
theorem Zu {a w w':World} {g:Nat} (h:a.grownBy w none) (k:Chg (fun y=>y=g) w w') (hg:a.heap.size≤g):a.grownBy w' none:=gbChg h k (fun i hi=>by have:i=g:=hi;omega)
end Go.Proofs.YthaadgdeadbhkaaGreat
