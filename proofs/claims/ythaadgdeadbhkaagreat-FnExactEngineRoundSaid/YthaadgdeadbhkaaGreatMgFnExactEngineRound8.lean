/-
  Elements of a field: IsElement,l03Both,areElements,l03All,FAdd,FSub.
-/
import Derived.Test.YthaadgdeadbhkaaGreatMgFnExactEngineRound7
import Derived.IntWalk
import Derived.Deep.DeepCutAuto
open Go.RowKit
set_option linter.unusedVariables false
set_option linter.unusedSimpArgs false
namespace Go.Proofs.YthaadgdeadbhkaaGreat
def elemB (p a:Int):Bool:=fieldB p&&decide (0≤a)&&decide (a≤p - 1)
theorem Yp {p a:Int} (h:elemB p a=true):fieldB p=true∧2≤p∧p≤101∧0≤a∧a<p:=by
  simp [elemB] at h;have:=ZG h.1.1;exact ⟨h.1.1,this.1,this.2,h.1.2,by omega⟩
theorem Xn {p a:Int} (h:fieldB p=true) (h0:0≤a) (h1:a<p):elemB p a=true:=by
  simp [elemB,h];omega
theorem ZD (p a:Int) (w:World) (hp:p≤9223372036854775807) :
    Calls Tryz.prog 96 #[.int .i64 p,.int .i64 a] w fun e w'=>e=.returned (.bool (elemB p a))∧w=w':=by
  cases hf:fieldB p with
  | false =>
    have HF:=zH hf;clear hf
    go_enter Tryz.func96,Tryz.ntmps96
    go_wp2_with fail;refine (YT p _ hp).mono ?_;rintro e w1 ⟨rfl,rfl⟩;rw [HF.out];go_wp2_with fail;go_ret;exact ⟨retB (by simp [elemB,HF.out]),rfl⟩
  | true =>
    obtain ⟨h2,h3⟩:=ZG hf;have HF:=zH hf;clear hf
    by_cases h0:0≤a
    all_goals by_cases h1:a≤p - 1
    all_goals (try (exfalso;omega))
    all_goals
      have H0:=zH h0;have H1:=zH h1
      go_enter Tryz.func96,Tryz.ntmps96
      go_wp2_with fail;refine (YT p _ hp).mono ?_;rintro e w1 ⟨rfl,rfl⟩;rw [HF.out]
      go_wp2
      go_ret;have h0':=H0.out;have h1':=H1.out;exact ⟨retB (by simp [elemB,HF.out,h0',h1'] <;> omega),rfl⟩
theorem Xo (p a b:Int) (w:World) (hp:p≤9223372036854775807) :
    Calls Tryz.prog 152 #[.int .i64 p,.int .i64 a,.int .i64 b] w fun e w'=>e=.returned (.bool (elemB p a&&elemB p b))∧w=w':=by
  cases ha:elemB p a with
  | false =>
    have HA:=zH ha;clear ha
    go_enter Tryz.func152,Tryz.ntmps152
    go_wp2_with fail;refine (ZD p a _ hp).mono ?_;rintro e w1 ⟨rfl,rfl⟩;rw [HA.out];go_wp2_with fail;go_ret;exact ⟨rfl,rfl⟩
  | true =>
    have HA:=zH ha;clear ha
    go_enter Tryz.func152,Tryz.ntmps152
    go_wp2_with fail;refine (ZD p a _ hp).mono ?_;rintro e w1 ⟨rfl,rfl⟩;rw [HA.out];go_wp2_with fail;refine (ZD p b _ hp).mono ?_;rintro e w1 ⟨rfl,rfl⟩;go_wp2_with fail;go_ret;exact ⟨rfl,rfl⟩
def elemsB (p:Int) (zs:List Int):Bool:=fieldB p&&zs.all fun a=>decide (0≤a)&&decide (a≤p - 1)
theorem ZY {p:Int} {zs:List Int} (h:elemsB p zs=true):fieldB p=true∧2≤p∧p≤101∧∀a∈zs,0≤a∧a<p:=by
  simp only [elemsB,Bool.and_eq_true,List.all_eq_true,decide_eq_true_eq] at h;have:=ZG h.1;exact ⟨h.1,this.1,this.2,fun a ha=>by have:=h.2 a ha;omega⟩
theorem Wl {p:Int} {zs:List Int} (h:fieldB p=true) (h1:∀a∈zs,0≤a∧a<p):elemsB p zs=true:=by
  simp only [elemsB,Bool.and_eq_true,List.all_eq_true,decide_eq_true_eq];exact ⟨h,fun a ha=>by have:=h1 a ha;omega⟩
theorem Wy (p a b:Int):elemsB p [a,b]=(elemB p a&&elemB p b):=by
  cases hf:fieldB p <;> simp [elemsB,elemB,hf,Bool.and_assoc]
theorem elemsB_out {p:Int} {zs:List Int} {k:Nat} (hk:k<zs.length) (h:¬(0≤zs.getD k 0∧zs.getD k 0≤p - 1)):elemsB p zs=false:=by
  cases hb:elemsB p zs with
  | false=>rfl
  | true =>
    have:=(ZY hb).2.2.2 zs[k] (List.getElem_mem hk);rw [getI zs k hk] at h;omega
theorem elemsB_all {p:Int} {zs:List Int} {n:Nat} (hf:fieldB p=true) (hl:zs.length=n) (h:∀j,j<n→0≤zs.getD j 0∧zs.getD j 0≤p - 1):elemsB p zs=true:=by
  refine Wl hf fun a ha => ?_;obtain ⟨j,hj,rfl⟩:=List.getElem_of_mem ha;have:=h j (by omega);rw [getI zs j hj] at this;omega
set_option maxHeartbeats 400000 in
theorem Zl (p:Int) (A:Option Addr) (n c:Nat) (zs:List Int) (w:World) (hp:p≤9223372036854775807) (hp0 : -9223372036854775808≤p) (hx:Ints w A n zs) (hn:n≤4611686018427387903) :
    Calls Tryz.prog 52 #[.int .i64 p,.slice A n c] w fun e w'=>e=.returned (.bool (elemsB p zs))∧w=w':=by
  have LX:=zH hx.len
  cases hf:fieldB p with
  | false =>
    have HF:=zH hf;have HE:Hid (elemsB p zs=false):=by simp [Hid,elemsB,hf]
    clear hf
    go_enter Tryz.func52,Tryz.ntmps52
    go_wp2_with fail
    go_loop [9] (fun i=>∃k:Nat,k≤n∧i=.int .i64 k) (fun i=>n - (intOf i).toNat)
    case atStart=>exact ⟨0,Nat.zero_le _,rfl⟩
    case round =>
      obtain ⟨k,hk,rfl⟩:=hrel
      by_cases hlt:k<n
      · obtain ⟨b,o,rfl,hb,c1⟩:=hx.cell hlt
        have i1:(k:Int)<(n:Int):=by omega
        generalize hz:zs.getD k 0=z at *;clear hz
        go_wp2_with go_in
        all_goals first
          | (go_round
             case rel=>exact ⟨k+1,by omega,by go_num⟩
             case measure=>simp [intOf];omega)
          | (go_ret
             exact ⟨retB HE.out.symm,rfl⟩)
      · have hkn:k=n:=by omega
        subst hkn;go_wp2_with fail;refine (Ya p _ hp).mono ?_;rintro e w1 ⟨rfl,rfl⟩;rw [HF.out];go_wp2_with fail;go_ret;exact ⟨retB HE.out.symm,rfl⟩
  | true =>
    obtain ⟨h2,h3⟩:=ZG hf;have HF:=zH hf;clear hf
    go_enter Tryz.func52,Tryz.ntmps52
    go_wp2_with fail
    go_loop [9] (fun i=>∃k:Nat,k≤n∧i=.int .i64 k∧Hid (∀j,j<k→0≤zs.getD j 0∧zs.getD j 0≤p - 1)) (fun i=>n - (intOf i).toNat)
    case atStart=>exact ⟨0,Nat.zero_le _,rfl,fun j hj=>by omega⟩
    case round =>
      obtain ⟨k,hk,rfl,hall⟩:=hrel
      by_cases hlt:k<n
      · obtain ⟨b,o,rfl,hb,c1⟩:=hx.cell hlt
        have i1:(k:Int)<(n:Int):=by omega
        by_cases hin:0≤zs.getD k 0∧zs.getD k 0≤p - 1
        · have HI:=zH hin
          obtain ⟨g0,g1⟩:=hin;generalize hz:zs.getD k 0=z at *;have HZ:=zH hz;clear hz;have d0:decide (0≤z)=true:=by simp;omega
          have d1:decide (z≤p - 1)=true:=by simp;omega
          go_wp2_with go_in
          go_round
          case rel=>exact ⟨k+1,by omega,by go_num,fun j hj=>by
            by_cases e:j=k
            · subst e;rw [HZ.out];exact HI.out
            · exact hall.out j (by omega)⟩
          case measure=>simp [intOf];omega
        · have HI:=zH hin
          generalize hz:zs.getD k 0=z at *;have HZ:=zH hz;clear hz
          by_cases g0:0≤z
          · have d0:decide (0≤z)=true:=by simp;omega
            have d1:decide (z≤p - 1)=false:=by simp;omega
            clear hin
            go_wp2_with go_in
            go_ret;have:=LX.out;exact ⟨retB (elemsB_out (k:=k) (by omega) (by rw [HZ.out];exact HI.out)).symm,rfl⟩
          · have d0:decide (0≤z)=false:=by simp;omega
            clear hin
            go_wp2_with go_in
            go_ret;have:=LX.out;exact ⟨retB (elemsB_out (k:=k) (by omega) (by rw [HZ.out];exact HI.out)).symm,rfl⟩
      · have hkn:k=n:=by omega
        subst hkn;go_wp2_with fail;refine (Ya p _ hp).mono ?_;rintro e w1 ⟨rfl,rfl⟩;rw [HF.out];go_wp2_with fail;go_ret;exact ⟨retB (elemsB_all HF.out LX.out hall.out).symm,rfl⟩
set_option maxHeartbeats 400000 in
theorem ZU (p:Int) (A:Option Addr) (n c:Nat) (zs:List Int) (w:World) (hp:p≤9223372036854775807) (hx:Ints w A n zs) (hn:n≤4611686018427387903) :
    Calls Tryz.prog 42 #[.int .i64 p,.slice A n c] w fun e w'=>e=.returned (.bool (elemsB p zs))∧w=w':=by
  have LX:=zH hx.len
  go_enter Tryz.func42,Tryz.ntmps42
  go_wp2_with fail
  go_loop [5] (fun i=>∃k:Nat,k≤n∧i=.int .i64 k∧Hid (∀j,j<k→elemB p (zs.getD j 0)=true)) (fun i=>n - (intOf i).toNat)
  case atStart=>exact ⟨0,Nat.zero_le _,rfl,fun j hj=>by omega⟩
  case round =>
    obtain ⟨k,hk,rfl,hall⟩:=hrel
    by_cases hlt:k<n
    · obtain ⟨b,o,rfl,hb,c1⟩:=hx.cell hlt
      have i1:(k:Int)<(n:Int):=by omega
      generalize hz:zs.getD k 0=z at *;have HZ:=zH hz;clear hz;go_wp2_with fail;refine (ZD p z _ hp).mono ?_;rintro e w1 ⟨rfl,rfl⟩
      cases he:elemB p z with
      | true =>
        have HE:=zH he;clear he;go_wp2_with fail
        go_round
        case rel=>exact ⟨k+1,by omega,by go_num,fun j hj=>by
          by_cases e:j=k
          · subst e;rw [HZ.out];exact HE.out
          · exact hall.out j (by omega)⟩
        case measure=>simp [intOf];omega
      | false =>
        have HE:=zH he;clear he;go_wp2_with fail;go_ret;have:=LX.out;refine ⟨retB ?_,rfl⟩
        cases hb:elemsB p zs with
        | false=>rfl
        | true =>
          have h:=ZY hb;have h1:=HE.out;have h2:=h.2.2.2 zs[k] (List.getElem_mem (by omega));rw [← getI zs k (by omega),HZ.out] at h2;rw [Xn h.1 h2.1 h2.2] at h1
          cases h1
    · have hkn:k=n:=by omega
      subst hkn;go_wp2_with fail;refine (YT p _ hp).mono ?_;rintro e w1 ⟨rfl,rfl⟩;go_wp2_with fail;go_ret;refine ⟨retB ?_,rfl⟩
      cases hf:fieldB p with
      | false=>simp [elemsB,hf]
      | true =>
        refine (elemsB_all hf LX.out fun j hj => ?_).symm;have:=Yp (hall.out j hj);omega
theorem ints2 (w:World) (t:TypeId) (a b:Int):Ints (w.alloc (.cells #[.int .i64 a,.int .i64 b] t)) (some ⟨w.heap.size,0,none⟩) 2 [a,b]:=by
  refine ⟨by simp,fun _=>⟨w.heap.size,0,rfl,by simp,fun j hj => ?_⟩⟩;rw [cell_of_row _ _ _ _ t (0,0) (heap_alloc_new w _)]
  rcases (show j=0∨j=1 by omega) with rfl | rfl <;> rfl
theorem prod_le {a b m:Int} (ha:0≤a) (hb:0≤b) (ha':a≤m) (hb':b≤m):0≤a*b∧a*b≤m*m :=
 ⟨Int.mul_nonneg ha hb,Int.mul_le_mul ha' hb' hb (by omega)⟩
structure BytesIn (w:World) (A:Option Addr) (n:Nat) (bs:List Int):Prop where
 bytes:Rd w 1 A n (bs.map (Value.int .u8))
 rng:∀b∈bs,0≤b∧b≤255
 small:n≤1048576
theorem BytesIn.grow {w w':World} {A:Option Addr} {n:Nat} {bs:List Int} (h:BytesIn w A n bs) (hg:w.grownBy w' none):BytesIn w' A n bs:=⟨h.bytes.grow hg,h.rng,h.small⟩
theorem BytesIn.off {w:World} {A:Option Addr} {n:Nat} {bs:List Int} (h:BytesIn w A n bs) {r:Option Nat} (hg:∀g,r=some g→w.heap.size≤g):0<n→Off A r:=fun hn a ha e=>by
 obtain ⟨b,o,rfl,hb,_⟩:=h.bytes.2 hn;injection ha with ha;subst ha;have:=hg b e.symm;omega
def Places (qs:List Int):Prop:=qs.length=12∧∀q∈qs,0≤q∧q<10000
theorem Places.at_ {qs:List Int} (h:Places qs) (k:Nat) (hk:k<12):0≤qs.getD k 0∧qs.getD k 0<10000:=by
 obtain ⟨hl,hq⟩:=h;rw [getI qs k (by omega)];exact hq _ (List.getElem_mem _)
def nine:List Int:=[2,3,5,7,11,13,31,97,101]
theorem VK (zs:List Int) (k:Nat) (h:k<zs.length):zs.take (k+1)=zs.take k ++ [zs.getD k 0]:=by
 rw [List.take_succ_eq_append_getElem h,getI zs k h]
theorem fsub_i {p a b:Int}:(a - b+p) % p=(a - b) % p:=by rw [Int.add_emod_right]
theorem fsub_s {p a b:Int}:(a+p - b) % p=(a - b) % p:=by rw [show a+p - b=a - b+p by omega,Int.add_emod_right]
set_option maxHeartbeats 400000 in
theorem Wz (p a b:Int) (w:World) (ha:elemB p a=true) (hb:elemB p b=true) :
  Calls Tryz.prog 102 #[.int .i64 p,.int .i64 a,.int .i64 b] w fun e w'=>e=.returned (.int .i64 ((a+b) % p))∧w.grownBy w' none:=by
 obtain ⟨_,p2,p101,a0,a1⟩:=Yp ha;obtain ⟨_,_,_,b0,b1⟩:=Yp hb;have HA:=zH ha;have HB:=zH hb;clear ha hb
 go_enter Tryz.func102,Tryz.ntmps102
 go_wp2_with fail;refine (Xo p a b _ (by omega)).mono ?_;rintro e w1 ⟨rfl,rfl⟩;rw [HA.out,HB.out,Bool.and_self];go_wp2_with fail;go_ret;exact ⟨rfl,gbR _ _⟩
set_option maxHeartbeats 400000 in
theorem WD (p a b:Int) (w:World) (ha:elemB p a=true) (hb:elemB p b=true) :
  Calls Tryz.prog 68 #[.int .i64 p,.int .i64 a,.int .i64 b] w fun e w'=>e=.returned (.int .i64 ((a+b) % p))∧w.grownBy w' none:=by
 obtain ⟨_,p2,p101,a0,a1⟩:=Yp ha;obtain ⟨_,_,_,b0,b1⟩:=Yp hb;have HE:Hid (elemsB p [a,b]=true):=by unfold Hid;rw [Wy,ha,hb];rfl
 clear ha hb
 go_enter Tryz.func68,Tryz.ntmps68
 go_wp2_with fail;refine (Zl p _ 2 2 [a,b] _ (by omega) (by omega) (ints2 w 3 a b) (by omega)).mono ?_;rintro e w1 ⟨rfl,rfl⟩;rw [HE.out];go_wp2_with fail;go_ret;exact ⟨rfl,gbA (gbR _ _) _⟩
set_option maxHeartbeats 400000 in
theorem VM (p a b:Int) (w:World) (ha:elemB p a=true) (hb:elemB p b=true) :
  Calls Tryz.prog 142 #[.int .i64 p,.int .i64 a,.int .i64 b] w fun e w'=>e=.returned (.int .i64 ((a - b) % p))∧w.grownBy w' none:=by
 obtain ⟨_,p2,p101,a0,a1⟩:=Yp ha;obtain ⟨_,_,_,b0,b1⟩:=Yp hb;have HA:=zH ha;have HB:=zH hb;clear ha hb;rw [← fsub_s]
 go_enter Tryz.func142,Tryz.ntmps142
 go_wp2_with fail;refine (Xo p a b _ (by omega)).mono ?_;rintro e w1 ⟨rfl,rfl⟩;rw [HA.out,HB.out,Bool.and_self];go_wp2_with fail;go_ret;exact ⟨rfl,gbR _ _⟩
set_option maxHeartbeats 400000 in
theorem implFSub_y (p a b:Int) (w:World) (ha:elemB p a=true) (hb:elemB p b=true) :
  Calls Tryz.prog 133 #[.int .i64 p,.int .i64 a,.int .i64 b] w fun e w'=>e=.returned (.int .i64 ((a - b) % p))∧w.grownBy w' none:=by
 obtain ⟨_,p2,p101,a0,a1⟩:=Yp ha;obtain ⟨_,_,_,b0,b1⟩:=Yp hb;have HE:Hid (elemsB p [a,b]=true):=by unfold Hid;rw [Wy,ha,hb];rfl
 clear ha hb;rw [← fsub_i]
 go_enter Tryz.func133,Tryz.ntmps133
 go_wp2_with fail;refine (Zl p _ 2 2 [a,b] _ (by omega) (by omega) (ints2 w 3 a b) (by omega)).mono ?_;rintro e w1 ⟨rfl,rfl⟩;rw [HE.out];go_wp2_with fail;go_ret;exact ⟨rfl,gbA (gbR _ _) _⟩
set_option maxHeartbeats 400000 in
theorem VN (p a b:Int) (w:World) (ha:elemB p a=true) (hb:elemB p b=true) :
  Calls Tryz.prog 100 #[.int .i64 p,.int .i64 a,.int .i64 b] w fun e w'=>e=.returned (.int .i64 ((a*b) % p))∧w.grownBy w' none:=by
 obtain ⟨_,p2,p101,a0,a1⟩:=Yp ha;obtain ⟨_,_,_,b0,b1⟩:=Yp hb;have HA:=zH ha;have HB:=zH hb;clear ha hb;obtain ⟨m0,m1⟩:=prod_le a0 b0 (show a≤101 by omega) (show b≤101 by omega)
 go_enter Tryz.func100,Tryz.ntmps100
 go_wp2_with fail;refine (Xo p a b _ (by omega)).mono ?_;rintro e w1 ⟨rfl,rfl⟩;rw [HA.out,HB.out,Bool.and_self];go_wp2_with fail;go_ret;exact ⟨rfl,gbR _ _⟩
set_option maxHeartbeats 400000 in
theorem VO (p a b:Int) (w:World) (ha:elemB p a=true) (hb:elemB p b=true) :
  Calls Tryz.prog 121 #[.int .i64 p,.int .i64 a,.int .i64 b] w fun e w'=>e=.returned (.int .i64 ((a*b) % p))∧w.grownBy w' none:=by
 obtain ⟨_,p2,p101,a0,a1⟩:=Yp ha;obtain ⟨_,_,_,b0,b1⟩:=Yp hb;have HE:Hid (elemsB p [a,b]=true):=by unfold Hid;rw [Wy,ha,hb];rfl
 clear ha hb;obtain ⟨m0,m1⟩:=prod_le a0 b0 (show a≤101 by omega) (show b≤101 by omega)
 go_enter Tryz.func121,Tryz.ntmps121
 go_wp2_with fail;refine (Zl p _ 2 2 [a,b] _ (by omega) (by omega) (ints2 w 3 a b) (by omega)).mono ?_;rintro e w1 ⟨rfl,rfl⟩;rw [HE.out];go_wp2_with fail;go_ret;exact ⟨rfl,gbA (gbR _ _) _⟩
def fsum (p:Int) (l:List Int):Int:=l.sum % p
theorem fsum_step {p:Int} {l:List Int} {k:Nat} (hk:k<l.length):(fsum p (l.take k)+l.getD k 0) % p=fsum p (l.take (k+1)):=by
 unfold fsum;rw [VK l k hk,List.sum_append,Int.emod_add_emod];simp
theorem Uw {p:Int} (hp:2≤p) (l:List Int):0≤fsum p l∧fsum p l<p:=⟨Int.emod_nonneg _ (by omega),Int.emod_lt_of_pos _ (by omega)⟩
theorem YH {p:Int} (hf:fieldB p=true) (l:List Int):elemB p (fsum p l)=true:=by
 obtain ⟨h1,h2⟩:=ZG hf;obtain ⟨h3,h4⟩:=Uw h1 l;exact Xn hf h3 h4
theorem Yr {p:Int} (hf:fieldB p=true) (x:Int):elemB p (x % p)=true:=by
 obtain ⟨h1,h2⟩:=ZG hf;exact Xn hf (Int.emod_nonneg _ (by omega)) (Int.emod_lt_of_pos _ (by omega))
set_option maxHeartbeats 400000 in
theorem VP (p:Int) (A:Option Addr) (n c:Nat) (zs:List Int) (w:World) (h:elemsB p zs=true) (hx:Ints w A n zs) (hn:n≤4611686018427387903) :
  Calls Tryz.prog 143 #[.int .i64 p,.slice A n c] w fun e w'=>e=.returned (.int .i64 (fsum p zs))∧w=w':=by
 obtain ⟨hf,p2,p101,hz⟩:=ZY h;have HE:=zH h;have LX:=zH hx.len;have HX:=zH hx;clear h hf
 go_enter Tryz.func143,Tryz.ntmps143
 go_wp2_with fail;refine (ZU p A n c zs _ (by omega) HX.out hn).mono ?_;rintro e w1 ⟨rfl,rfl⟩;rw [HE.out];go_wp2_with fail
 go_loop [5,6] (fun z i=>∃k:Nat,k≤n∧i=.int .i64 k∧z=.int .i64 (fsum p (zs.take k))) (fun _ i=>n - (intOf i).toNat)
 case atStart=>exact ⟨0,Nat.zero_le _,rfl,by simp [fsum]⟩
 case round =>
  obtain ⟨k,hk,rfl,rfl⟩:=hrel;obtain ⟨s0,s1⟩:=Uw p2 (zs.take k)
  by_cases hlt:k<n
  ·obtain ⟨b,o,rfl,hb,hc⟩:=HX.out.at_ (by omega)
   have c0:=hc k hlt;have i1:(k:Int)<(n:Int):=by omega
   have HS:=zH (fsum_step (p:=p) (l:=zs) (k:=k) (by have:=LX.out;omega));have hzk:=hz (zs.getD k 0) (by rw [getI zs k (by have:=LX.out;omega)];exact List.getElem_mem ..);obtain ⟨z0,z1⟩:=hzk;generalize fsum p (zs.take k)=s at *;generalize zs.getD k 0=y at *;clear hc hz;go_wp2_with fail
   go_round
   case rel=>exact ⟨k+1,by omega,by go_num,by rw [← HS.out]⟩
   case measure=>simp [intOf];omega
  ·have hkn:k=n:=by omega
   subst hkn;have HT:Hid (fsum p (zs.take k)=fsum p zs):=by unfold Hid;rw [List.take_of_length_le (by have:=LX.out;omega)]
   generalize fsum p (zs.take k)=s at *;go_wp2_with fail;go_ret;exact ⟨retI HT.out,rfl⟩
set_option maxHeartbeats 400000 in
theorem VQ (p:Int) (A:Option Addr) (n c:Nat) (zs:List Int) (w:World) (h:elemsB p zs=true) (hx:Ints w A n zs) (hn:n≤4611686018427387903) :
  Calls Tryz.prog 135 #[.int .i64 p,.slice A n c] w fun e w'=>e=.returned (.int .i64 (fsum p zs))∧w=w':=by
 obtain ⟨hf,p2,p101,hz⟩:=ZY h;have HE:=zH h;have LX:=zH hx.len;have HX:=zH hx;clear h hf
 go_enter Tryz.func135,Tryz.ntmps135
 go_wp2_with fail;refine (Zl p A n c zs _ (by omega) (by omega) HX.out hn).mono ?_;rintro e w1 ⟨rfl,rfl⟩;rw [HE.out];go_wp2_with fail
 go_loop [5,14] (fun z i=>∃k:Nat,k≤n∧i=.int .i64 k∧z=.int .i64 (fsum p (zs.take k))) (fun _ i=>n - (intOf i).toNat)
 case atStart=>exact ⟨0,Nat.zero_le _,rfl,by simp [fsum]⟩
 case round =>
  obtain ⟨k,hk,rfl,rfl⟩:=hrel;obtain ⟨s0,s1⟩:=Uw p2 (zs.take k)
  by_cases hlt:k<n
  ·obtain ⟨b,o,rfl,hb,hc⟩:=HX.out.at_ (by omega)
   have c0:=hc k hlt;have i1:(k:Int)<(n:Int):=by omega
   have HS:=zH (fsum_step (p:=p) (l:=zs) (k:=k) (by have:=LX.out;omega));have hzk:=hz (zs.getD k 0) (by rw [getI zs k (by have:=LX.out;omega)];exact List.getElem_mem ..);obtain ⟨z0,z1⟩:=hzk;generalize fsum p (zs.take k)=s at *;generalize zs.getD k 0=y at *;clear hc hz;go_wp2_with fail
   go_round
   case rel=>exact ⟨k+1,by omega,by go_num,by rw [← HS.out]⟩
   case measure=>simp [intOf];omega
  ·have hkn:k=n:=by omega
   subst hkn;have HT:Hid (fsum p (zs.take k)=fsum p zs):=by unfold Hid;rw [List.take_of_length_le (by have:=LX.out;omega)]
   generalize fsum p (zs.take k)=s at *;go_wp2_with fail;go_ret;exact ⟨retI HT.out,rfl⟩
theorem chgDr {S:Nat→Prop} {w w':World} (h:Chg S w.drew w'):Chg S w w':=⟨h.os,h.tape,h.output,h.size,h.block⟩
def shareL (p x:Int) (L:List Int):List Int:=L ++ [(x - fsum p L) % p]
theorem shareL_len (p x:Int) (L:List Int):(shareL p x L).length=L.length+1:=by simp [shareL]
theorem Uj {p x:Int} {L:List Int} (h:elemsB p L=true):elemsB p (shareL p x L)=true:=by
 obtain ⟨hf,p2,p101,hz⟩:=ZY h;refine Wl hf fun a ha => ?_
 rcases List.mem_append.1 ha with ha | ha
 ·exact hz a ha
 ·have:a=(x - fsum p L) % p:=by simpa using ha
  subst this;exact ⟨Int.emod_nonneg _ (by omega),Int.emod_lt_of_pos _ (by omega)⟩
theorem shareL_sum {p x:Int} {L:List Int} (h0:0≤x) (h1:x<p):fsum p (shareL p x L)=x:=by
 unfold fsum shareL;rw [List.sum_append];simp only [List.sum_cons,List.sum_nil,Int.add_zero];rw [Int.add_emod_emod,show fsum p L=L.sum % p from rfl,← Int.add_sub_assoc,Int.sub_emod_emod,show L.sum+x - L.sum=x by omega];exact Int.emod_eq_of_lt h0 h1
theorem elems_tape {P s a k:Nat} (hf:fieldB (P:Int)=true) (h0:0<P):elemsB (P:Int) (tapeL s a P k)=true:=Wl hf fun z hz=>tapeL_rng h0 z hz
structure KM where
 p:Int
 al:List Int
abbrev ckeys (m:KM):List CS:=[ci m.p,cints m.al]
def KM.sz (m:KM):Nat:=m.al.length
def KM.cnt (k:Int) (m:KM):Int:=k+m.al.length
def KM.mkd (k:Int) (m:KM):KM:={ m with al:=marks (k) m.al.length }
def KM.wf (m:KM):Prop:=i64w m.p∧(∀z∈m.al,i64w z)
theorem stKeys:St Tryz.prog 34 2:=⟨⟨_,Tryz.underlying34,rfl⟩,by kernel_rfl⟩
theorem Xv {w:World} {m:KM} {v:Value} (h:AggR w (ckeys m) v):∃u1,v=.agg #[(.int .i64 m.p),u1]∧(cints m.al).rd w u1:=by
 obtain ⟨vs,rfl,h⟩:=h;obtain ⟨u0,vs0,rfl,h0,h⟩:=RdAll.head h;obtain ⟨u1,vs1,rfl,h1,h⟩:=RdAll.head h;obtain rfl:=RdAll.none h;obtain rfl:=QB h0;exact ⟨u1,rfl,h1⟩
theorem ckeys_mk {w:World} {m:KM} {u1:Value} (h1:(cints m.al).rd w u1):AggR w (ckeys m) (.agg #[(.int .i64 m.p),u1]):=⟨_,rfl,(RdAll.cons (ci_mk _ _) (RdAll.cons h1 (RdAll.nil _)))⟩
theorem Wc {w:World} {m:KM} {F:List Nat} {v:Value} (h:AggO w (ckeys m) F v):∃(A1:Option Addr) (n1 s1:Nat),v=.agg #[(.int .i64 m.p),(.slice A1 n1 s1)]:=by
 obtain ⟨vs,Fs,rfl,h,rfl⟩:=h;obtain ⟨u0,vs0,F0,Fs0,rfl,rfl,h0,h,d0⟩:=OwnAll.head h;obtain ⟨u1,vs1,F1,Fs1,rfl,rfl,h1,h,d1⟩:=OwnAll.head h;obtain ⟨rfl,rfl⟩:=OwnAll.none h;obtain ⟨rfl,rfl,_⟩:=h0;obtain ⟨A1,n1,s1,rfl⟩:=ZJ h1;exact ⟨A1,n1,s1,rfl⟩
theorem Wd {w:World} {m:KM} {F:List Nat} {v:Value} (h:AggO w (ckeys m) F v):∃u1 F1,v=.agg #[(.int .i64 m.p),u1]∧F=[[],F1].flatten∧(cints m.al).own w F1 u1:=by
 obtain ⟨vs,Fs,rfl,h,rfl⟩:=h;obtain ⟨u0,vs0,F0,Fs0,rfl,rfl,h0,h,d0⟩:=OwnAll.head h;obtain ⟨u1,vs1,F1,Fs1,rfl,rfl,h1,h,d1⟩:=OwnAll.head h;obtain ⟨rfl,rfl⟩:=OwnAll.none h;obtain ⟨rfl,rfl,_⟩:=h0;exact ⟨u1,F1,rfl,rfl,h1⟩
theorem XN {w:World} {m:KM} {u1:Value} {F1:List Nat} (h1:(cints m.al).own w F1 u1)  : AggO w (ckeys m) [[],F1].flatten (.agg #[(.int .i64 m.p),u1]):=⟨_,_,rfl,(OwnAll.cons (WW _ _) (OwnAll.cons h1 (OwnAll.nil _) (fun g hg=>by simp)) (by simp)),rfl⟩
set_option maxHeartbeats 1000000 in
theorem toKeys_k (m:KM) (v:Value) (w:World) (h:AggR w (ckeys m) v) (hn:m.sz≤1048576) :
  Calls Tryz.prog 10 #[v] w fun e w'=>∃u F,e=.returned u∧AggO w' (ckeys m) F u∧(∀g∈F,w.heap.size≤g)∧w.grownBy w' none:=by
 obtain ⟨u1,rfl,h1⟩:=Xv h;have HN:=zH hn;have H1:=zH h1;clear h hn h1
 go_enter Tryz.func10,Tryz.ntmps10
 go_wp2_with fail;obtain ⟨x0,e0⟩:∃x:World,x=((w.alloc (.cells #[(.int .i64 m.p),u1] 24)).alloc (.cells #[(.int .i64 0),(.slice none 0 0)] 34)).alloc (.cells #[(.int .i64 m.p),(.slice none 0 0)] 34):=⟨_,rfl⟩;have A1:Hid (Blk x0 w.heap.size 24 #[(.int .i64 m.p),u1]):=by rw [e0];exact ((Blk.new w _ _).grow (gbA (gbR _ _) _)).grow (gbA (gbR _ _) _)
 have A2:Hid (Blk x0 (w.heap.size+1) 34 #[(.int .i64 0),(.slice none 0 0)]):=by rw [e0];exact (Blk.new' _ _ _ _ (by simp)).grow (gbA (gbR _ _) _)
 have A3:Hid (Blk x0 (w.heap.size+1+1) 34 #[(.int .i64 m.p),(.slice none 0 0)]):=by rw [e0];exact Blk.new' _ _ _ _ (by simp)
 have G0:Hid (w.grownBy x0 none):=by rw [e0];exact gbA (gbA (gbA (gbR _ _) _) _) _
 have Z0:x0.heap.size=w.heap.size+1+1+1:=by rw [e0];simp
 try rw [← e0]
 clear e0;have R:=CS.grow _ H1.out G0.out;refine (Xm m.al u1 _ R (by have:=HN.out;unfold KM.sz at this;omega)).mono ?_;rintro e x1 ⟨v1,F1,rfl,o1,l1,g1⟩;obtain ⟨B1,n1,s1,rfl⟩:=ZJ o1;have Z1:=g1.size
 try simp at Z1
 have L1:Hid (∀g∈F1,x0.heap.size≤g):=fun g hg=>by have:=l1 g hg;simpa using this
 have O1:=zH o1;have Q1:Hid (∀g∈F1,g<x1.heap.size):=fun g hg=>CS.lt _ o1 g hg;have E1:=zH (Blk.grow (A1.out) g1);have E2:=zH (Blk.grow (A2.out) g1);have E3:=zH (Blk.grow (A3.out) g1);have G1:=zH (gbT (G0.out) g1);clear R l1 g1 o1 A1 A2 A3 G0;have A1:=E1;have A2:=E2;have A3:=E3;clear E1 E2 E3;have K2:=zH ((((A2.out).far (p:=⟨w.heap.size+1+1,1,none⟩) (by first | (simp;done) | (simp;omega)) (.slice B1 n1 s1)).set_ 0 (.int .i64 m.p)).set_ 1 (.slice B1 n1 s1));have KG:=zH (gbS (gbS (gbS (G1.out) (p:=⟨w.heap.size+1+1,1,none⟩) (by simp;omega) (.slice B1 n1 s1)) (p:=⟨w.heap.size+1,0,none⟩) (by simp) (.int .i64 m.p)) (p:=⟨w.heap.size+1,1,none⟩) (by simp) (.slice B1 n1 s1));have P1:=zH (ZR _ (ZR _ (ZR _ (O1.out) ⟨w.heap.size+1+1,1,none⟩ (fun hg=>by have:=L1.out _ hg;simp at this;omega) (.slice B1 n1 s1)) ⟨w.heap.size+1,0,none⟩ (fun hg=>by have:=L1.out _ hg;simp at this;omega) (.int .i64 m.p)) ⟨w.heap.size+1,1,none⟩ (fun hg=>by have:=L1.out _ hg;simp at this;omega) (.slice B1 n1 s1));have d:=A3.out;have d0:=A3.out.cell 0;have f0:=A3.out.frozen 0;have b0:=A2.out.cell 0;have t0:=A2.out.frozen 0;have d1:=A3.out.cell 1;have f1:=A3.out.frozen 1;have b1:=A2.out.cell 1;have t1:=A2.out.frozen 1;clear d;simp at d0 d1 b0 b1;clear A1 A2 A3 G1;go_wp2_with fail;refine Yo Tryz.results10 (by rfl) stKeys (cs:=#[(.int .i64 m.p),(.slice B1 n1 s1)]) ?B (by rfl) (by rfl) ?_
 case B=>exact K2.out
 refine ⟨_,_,rfl,XN P1.out ,fun g hg => ?_,KG.out⟩;simp at hg
 skip
 have:=L1.out g hg;omega
set_option maxHeartbeats 1000000 in
theorem eqKeys_k (m:KM) (v u:Value) (w:World) (h:AggR w (ckeys m) v) (k:AggR w (ckeys m) u) (hn:m.sz≤1048576) :
  Calls Tryz.prog 16 #[v,u] w fun e w'=>e=.returned (.bool true)∧w.grownBy w' none:=by
 obtain ⟨u1,rfl,h1⟩:=Xv h;obtain ⟨t1,rfl,k1⟩:=Xv k;have HN:=zH hn;have H1:=zH h1;have K1:=zH k1;clear h k hn h1 k1
 go_enter Tryz.func16,Tryz.ntmps16
 have A1:Hid (Blk ((w.alloc (.cells #[(.int .i64 m.p),u1] 34)).alloc (.cells #[(.int .i64 m.p),t1] 34)) w.heap.size 34 #[(.int .i64 m.p),u1]):=(Blk.new w _ _).grow (gbA (gbR _ _) _);have A2:Hid (Blk ((w.alloc (.cells #[(.int .i64 m.p),u1] 34)).alloc (.cells #[(.int .i64 m.p),t1] 34)) (w.heap.size+1) 34 #[(.int .i64 m.p),t1]):=Blk.new' _ _ _ _ (by simp);have G0:Hid (w.grownBy ((w.alloc (.cells #[(.int .i64 m.p),u1] 34)).alloc (.cells #[(.int .i64 m.p),t1] 34)) none):=gbA (gbA (gbR _ _) _) _;go_wp2_with fail;refine (Ww m.al u1 t1 _ (CS.grow _ H1.out G0.out) (CS.grow _ K1.out G0.out) (by have:=HN.out;unfold KM.sz at this;omega)).mono ?_;rintro e x1 ⟨rfl,g1⟩;have G1:=zH (gbT G0.out g1);have E1:=zH (Blk.grow A1.out g1);have E2:=zH (Blk.grow A2.out g1);clear A1 A2 g1;have A1:=E1;have A2:=E2;clear E1 E2;go_wp2_with fail;go_ret;exact ⟨rfl,G1.out⟩
set_option maxHeartbeats 1000000 in
theorem Vt (m:KM) (v:Value) (l:Nat) (w:World) (h:AggR w (ckeys m) v) (hl:l≤1048576) :
  Calls Tryz.prog 7 #[v,.int .i64 l] w fun e w'=>e=.returned (.int .i64 (szO l m.sz))∧w.grownBy w' none:=by
 obtain ⟨u1,rfl,h1⟩:=Xv h;have H1:=zH h1;clear h h1;have A0:=zH (Blk.new w 24 #[(.int .i64 m.p),u1]);have G0:=zH (gbA (gbR w none) (.cells #[(.int .i64 m.p),u1] 24))
 by_cases b0:m.al.length≤l
 ·have C0:=zH (ZT b0)
  have Y0:=zH b0;clear b0
  go_enter Tryz.func7,Tryz.ntmps7
  go_wp2_with fail;refine (YS m.al u1 (l) _ (CS.grow _ H1.out G0.out) (by omega)).mono ?_;rintro e x1 ⟨rfl,g1⟩;rw [C0.out];have G1:=zH (gbT G0.out g1);have A1:=zH (Blk.grow A0.out g1);have s0:¬((l - m.al.length:Nat):Int)<0:=by omega
  clear g1;go_wp2_with fail;go_ret;exact ⟨retI (by have:=Y0.out;rw [ZT (by unfold KM.sz;omega)];unfold KM.sz;omega),G1.out⟩
 ·have C0:=zH (ZV (Nat.lt_of_not_le b0))
  have N0:=zH b0;clear b0
  go_enter Tryz.func7,Tryz.ntmps7
  go_wp2_with fail;refine (YS m.al u1 (l) _ (CS.grow _ H1.out G0.out) (by omega)).mono ?_;rintro e x1 ⟨rfl,g1⟩;rw [C0.out];have G1:=zH (gbT G0.out g1);have A1:=zH (Blk.grow A0.out g1);clear g1;go_wp2_with fail;go_ret;exact ⟨retI (by rw [ZV];have:=N0.out;unfold KM.sz;omega),G1.out⟩
set_option maxHeartbeats 1000000 in
theorem markKeys_k (m:KM) (v:Value) (F:List Nat) (k:Int) (w:World) (h:AggO w (ckeys m) F v) (hn:m.sz≤1048576) (h0:0≤k) (h1:k≤17179869184) :
  Calls Tryz.prog 18 #[v,.int .i64 k] w fun e w'=>e=.returned (.int .i64 (m.cnt k))∧AggO w' (ckeys (m.mkd k)) F v∧Chg (fun g=>g∈F) w w':=by
 obtain ⟨u1,F1,rfl,rfl,h1⟩:=Wd h;have q1:m.al.length≤1048576:=by unfold KM.sz at hn;omega
 have V1:Hid (∀g∈F1,g<w.heap.size):=CS.lt _ h1;have A0:=zH (Blk.new w 34 #[(.int .i64 m.p),u1]);have G0:=zH (gbA (gbR w none) (.cells #[(.int .i64 m.p),u1] 34));have P1:=zH (Zj _ h1 G0.out);have M0:Hid (Chg (fun g=>g∈[[],F1].flatten) (w.alloc (.cells #[(.int .i64 m.p),u1] 34)) (w.alloc (.cells #[(.int .i64 m.p),u1] 34))):=Chg.refl _ _;clear h hn h1
 go_enter Tryz.func18,Tryz.ntmps18
 go_wp2_with fail;refine (Yh m.al u1 F1 (k) _ P1.out (by omega) (by omega) (by omega)).mono ?_;rintro e x1 ⟨rfl,o1,g1⟩;have N1:=zH o1;clear P1;have P1:=N1;clear N1;have A1:=zH (ZP A0.out g1 (fun hg=>by have:=V1.out _ hg;omega));have M1:=zH (M0.out.trans (g1.mono (fun g hg=>by simp [hg])));clear o1 g1 A0 M0;go_wp2_with fail;go_ret;have hM:=M1.out;refine ⟨rfl,XN (m:=m.mkd k) P1.out ,⟨hM.os,hM.tape,hM.output,Nat.le_trans G0.out.size hM.size,fun i hi hs=>(hM.block i (Nat.lt_of_lt_of_le hi G0.out.size) hs).trans (G0.out.block i hi (by simp))⟩⟩
set_option maxHeartbeats 1000000 in
theorem heldKeys_k (m:KM) (v:Value) (k:Int) (w:World) (h:AggR w (ckeys (m.mkd k)) v) (hn:m.sz≤1048576) (h0:0≤k) (h1:k≤17179869184) :
  Calls Tryz.prog 77 #[v,.int .i64 k] w fun e w'=>e=.returned (.int .i64 (m.cnt k))∧w.grownBy w' none:=by
 obtain ⟨u1,rfl,h1⟩:=Xv h;have q1:m.al.length≤1048576:=by unfold KM.sz at hn;omega
 have A0:=zH (Blk.new w 34 #[(.int .i64 (m.mkd k).p),u1]);have G0:=zH (gbA (gbR w none) (.cells #[(.int .i64 (m.mkd k).p),u1] 34));have P1:=zH h1;clear h hn h1
 go_enter Tryz.func77,Tryz.ntmps77
 go_wp2_with fail;refine (Wx m.al.length u1 (k) _ (CS.grow _ P1.out G0.out) (by omega) (by omega) (by omega)).mono ?_;rintro e x1 ⟨rfl,g1⟩;have A1:=zH (Blk.grow A0.out g1);have G1:=zH (gbT G0.out g1);clear g1 A0;have s0:¬k+m.al.length<0:=by omega
 go_wp2_with fail;go_ret;exact ⟨rfl,G1.out⟩
end Go.Proofs.YthaadgdeadbhkaaGreat
