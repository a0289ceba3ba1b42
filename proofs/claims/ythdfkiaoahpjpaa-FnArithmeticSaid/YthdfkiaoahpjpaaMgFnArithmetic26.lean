/-
  The program's builder: adder, nots, sum.
-/
import Derived.Test.YthdfkiaoahpjpaaMgFnArithmetic25
namespace Go.Proofs.Ythdfkiaoahpjpaa
open Go.RowKit
set_option linter.unusedVariables false
set_option linter.unusedSimpArgs false
theorem put_len (m : CM) (k x y : Int) : (m.put k x y).gt.length = m.gt.length + 1 := by unfold CM.put; simp
def adderM (m : CM) (x y c : Int) : CM := ((((m.put 3 x c).put 3 y c).put 3 x (m.put 3 x c).gt.length).put 4 m.gt.length (m.put 3 x c).gt.length).put 3 (((m.put 3 x c).put 3 y c).put 3 x (m.put 3 x c).gt.length).gt.length c
theorem adder_len (m : CM) (x y c : Int) : (adderM m x y c).gt.length = m.gt.length + 5 := by unfold adderM; simp only [put_len]
def SRV (T : TypeId) (lo : Nat) (w : World) (A : Option Addr) (n : Nat) (xs : List Int) : Prop := ∀ w', Chg (GBT T lo w) w w' → Ints w' A n xs
theorem SRV.next {T : TypeId} {lo : Nat} {w w' : World} {A : Option Addr} {n : Nat} {xs : List Int} (h : SRV T lo w A n xs) (k : Chg (GBT T lo w) w w') : SRV T lo w' A n xs := fun w2 h2 => h w2 (GBT.trans k h2)
theorem SRV.now {T : TypeId} {lo : Nat} {w : World} {A : Option Addr} {n : Nat} {xs : List Int} (h : SRV T lo w A n xs) : Ints w A n xs := h w (Chg.refl _ _)
theorem SRV.grow {T : TypeId} {lo : Nat} {w w' : World} {A : Option Addr} {n : Nat} {xs : List Int} (h : SRV T lo w A n xs) (k : w.grownBy w' none) : SRV T lo w' A n xs := h.next (GBT.grow k)
theorem SRV.low {T : TypeId} {w0 w : World} {A : Option Addr} {n : Nat} {xs : List Int} (h : Ints w0 A n xs) (hg : w0.grownBy w none) : SRV T w0.heap.size w A n xs := fun w' k => h.grow (GBT.base hg k)
theorem SRV.own {T : TypeId} {lo l2 : Nat} {w : World} {A : Option Addr} {n c : Nat} {xs : List Int} (h : ownF l2 (cints xs) (.slice A n c) w) (hT : T ≠ 3) : SRV T lo w A n xs := fun w' k => by
  obtain ⟨F, h1, _⟩ := GBT.ownF k hT h
  obtain ⟨A', c', e, _, _, hI⟩ := cints_rd ((cints xs).toRd h1)
  injection e with e1 e2 _
  subst e1; subst e2
  exact hI
theorem hT9 : (77 : TypeId) ≠ 3 := by decide
set_option maxHeartbeats 4000000 in
set_option maxRecDepth 100000 in
theorem impladder_c (m : CM) (g lo hi : Nat) (x y c : Int) (w : World) (h : BS 77 lo hi m g w) (hm : m.gt.length ≤ 90000) (hlo : lo ≤ w.heap.size) :
    Calls Try.prog 53 #[.pointer (some ⟨g, 0, none⟩), .int .i64 x, .int .i64 y, .int .i64 c] w fun e w' => e = .returned (.tuple #[.int .i64 ((m.gt.length : Int) + 2), .int .i64 ((m.gt.length : Int) + 4)]) ∧ Bld 77 lo hi (adderM m x y c) g w w' := by
  go_enter Try.func53, Try.ntmps53
  go_wp2_with fail
  refine (implgate_c m g lo hi 3 x c w h (by omega) hlo).mono ?_
  rintro e w1 ⟨rfl, b1⟩
  obtain ⟨m1, hm1⟩ : ∃ q, m.put 3 x c = q := ⟨_, rfl⟩
  have l1 : m1.gt.length = m.gt.length + 1 := by rw [← hm1]; exact put_len m _ _ _
  rw [hm1] at b1
  have B1 := Lib.hid b1
  have z1 := b1.2.size
  have HM1 := Lib.hid hm1
  have L1 := Lib.hid l1
  clear b1 hm1 l1 h
  go_wp2_with fail
  refine (implgate_c m1 g lo hi 3 y c w1 B1.out.1 (by have := L1.out; omega) (by omega)).mono ?_
  rintro e w2 ⟨rfl, b2⟩
  obtain ⟨m2, hm2⟩ : ∃ q, m1.put 3 y c = q := ⟨_, rfl⟩
  have l2 : m2.gt.length = m.gt.length + 2 := by rw [← hm2, put_len, L1.out]
  rw [hm2] at b2
  have B2 := Lib.hid (B1.out.trans b2)
  have z2 := b2.2.size
  have HM2 := Lib.hid hm2
  have L2 := Lib.hid l2
  clear b2 hm2 l2 B1
  go_wp2_with fail
  refine (implgate_c m2 g lo hi 3 x (m1.gt.length) w2 B2.out.1 (by have := L2.out; omega) (by omega)).mono ?_
  rintro e w3 ⟨rfl, b3⟩
  obtain ⟨m3, hm3⟩ : ∃ q, m2.put 3 x (m1.gt.length) = q := ⟨_, rfl⟩
  have l3 : m3.gt.length = m.gt.length + 3 := by rw [← hm3, put_len, L2.out]
  rw [hm3] at b3
  have B3 := Lib.hid (B2.out.trans b3)
  have z3 := b3.2.size
  have HM3 := Lib.hid hm3
  have L3 := Lib.hid l3
  clear b3 hm3 l3 B2
  go_wp2_with fail
  refine (implgate_c m3 g lo hi 4 (m.gt.length) (m1.gt.length) w3 B3.out.1 (by have := L3.out; omega) (by omega)).mono ?_
  rintro e w4 ⟨rfl, b4⟩
  obtain ⟨m4, hm4⟩ : ∃ q, m3.put 4 (m.gt.length) (m1.gt.length) = q := ⟨_, rfl⟩
  have l4 : m4.gt.length = m.gt.length + 4 := by rw [← hm4, put_len, L3.out]
  rw [hm4] at b4
  have B4 := Lib.hid (B3.out.trans b4)
  have z4 := b4.2.size
  have HM4 := Lib.hid hm4
  have L4 := Lib.hid l4
  clear b4 hm4 l4 B3
  go_wp2_with fail
  refine (implgate_c m4 g lo hi 3 (m3.gt.length) c w4 B4.out.1 (by have := L4.out; omega) (by omega)).mono ?_
  rintro e w5 ⟨rfl, b5⟩
  have B5 := Lib.hid (B4.out.trans b5)
  clear b5
  go_wp2_with fail
  refine bodyPost_ret (v := .tuple #[.int .i64 m2.gt.length, .int .i64 m4.gt.length]) (by simp [results, Try.results53]) rfl ?_
  refine ⟨?_, ?_⟩
  · rw [show (m2.gt.length : Int) = (m.gt.length : Int) + 2 by have := L2.out; omega, show (m4.gt.length : Int) = (m.gt.length : Int) + 4 by have := L4.out; omega]
  · have he : adderM m x y c = m4.put 3 (m3.gt.length) c := by unfold adderM; rw [HM1.out, HM2.out, HM3.out, HM4.out]
    rw [he]
    exact B5.out
def notsTo (m : CM) (xs : List Int) : Nat → List Int × CM
  | 0 => ([], m)
  | k + 1 => ((notsTo m xs k).1 ++ [((notsTo m xs k).2.gt.length : Int)], (notsTo m xs k).2.put 5 (xs.getD k 0) 0)
theorem nots_len (m : CM) (xs : List Int) : ∀ k, (notsTo m xs k).1.length = k ∧ (notsTo m xs k).2.gt.length = m.gt.length + k
  | 0 => ⟨rfl, rfl⟩
  | k + 1 => by
    obtain ⟨h1, h2⟩ := nots_len m xs k
    exact ⟨by simp [notsTo, h1], by simp only [notsTo, put_len, h2]; omega⟩
set_option maxHeartbeats 4000000 in
set_option maxRecDepth 100000 in
theorem implnots_c (m : CM) (g lo hi : Nat) (A : Option Addr) (n c : Nat) (xs : List Int) (w : World) (h : BS 77 lo hi m g w) (hx : SRV 77 lo w A n xs) (hm : m.gt.length ≤ 50000) (hn : n ≤ 1000) (hlo : lo ≤ w.heap.size) (hhi : hi ≤ w.heap.size) :
    Calls Try.prog 52 #[.pointer (some ⟨g, 0, none⟩), .slice A n c] w fun e w' => ∃ v, e = .returned v ∧ ownF w.heap.size (cints (notsTo m xs n).1) v w' ∧ Bld 77 lo hi (notsTo m xs n).2 g w w' := by
  have HX := Lib.hid hx
  have HB0 := Lib.hid h
  obtain ⟨w1, hw1⟩ : ∃ q : World, w.alloc (.cells #[] 3) = q := ⟨_, rfl⟩
  have G1 : Hid (w.grownBy w1 none) := by rw [← hw1]; exact Lib.hid (gbA (gbR _ _) _)
  have R1 : Hid (ownF w.heap.size (cints []) (.slice (some ⟨w.heap.size, 0, none⟩) 0 0) w1) := by
    rw [← hw1]
    exact Lib.hid (ownF.ints (World.ownsRow_made w #[] 0 (Nat.le_refl _) (by simp) rfl))
  have BL : Hid (Bld 77 lo hi m g w w1) := Lib.hid ⟨h.grow G1.out, GBT.grow G1.out⟩
  clear h hx
  go_enter Try.func52, Try.ntmps52
  go_wp2_with fail
  try rw [hw1]
  clear hw1
  go_loopw [5, 11] (fun t i wr => ∃ k : Nat, k ≤ n ∧ i = .int .i64 k ∧ Hid (ownF w.heap.size (cints (notsTo m xs k).1) t wr) ∧ Hid (Bld 77 lo hi (notsTo m xs k).2 g w wr)) (fun _ i _ => n - (intOf i).toNat)
  case atStart => exact ⟨0, Nat.zero_le _, rfl, R1, BL⟩
  case round =>
    clear R1 BL
    obtain ⟨k, hk, rfl, RO, BL⟩ := hrel
    obtain ⟨l1, l2⟩ := nots_len m xs k
    by_cases hlt : k < n
    · have i1 : (k : Int) < (n : Int) := by omega
      obtain ⟨b, o, rfl, hb, hcc⟩ := (HX.out wr BL.out.2).at_ (by omega)
      have cD := hcc k hlt
      have hz := BL.out.2.size
      have hpk : notsTo m xs (k + 1) = ((notsTo m xs k).1 ++ [((notsTo m xs k).2.gt.length : Int)], (notsTo m xs k).2.put 5 (xs.getD k 0) 0) := rfl
      have HPK := Lib.hid hpk
      obtain ⟨p, hp⟩ : ∃ p, notsTo m xs k = p := ⟨_, rfl⟩
      rw [hp] at l1 l2 RO BL HPK
      obtain ⟨xk, hxk⟩ : ∃ q, xs.getD k 0 = q := ⟨_, rfl⟩
      rw [hxk] at cD HPK
      have LL1 := Lib.hid l1
      have LL2 := Lib.hid l2
      clear hcc hpk hp hxk l1 l2
      go_wp2_with fail
      clear cD
      refine (implgate_c p.2 g lo hi 5 xk 0 wr BL.out.1 (by have := LL2.out; omega) (by omega)).mono ?_
      rintro e w2 ⟨rfl, b2⟩
      have BL2 := Lib.hid (BL.out.trans b2)
      have R2 := GBT.ownF b2.2 hT9 RO.out
      obtain ⟨F, hF, hFl⟩ := R2
      obtain ⟨A2, c2, e2, hF2, hrow⟩ := cints_row hF
      have hrow := hrow w.heap.size hFl
      rw [LL1.out] at e2 hrow
      subst e2
      have ROW := Lib.hid hrow
      have hz2 := b2.2.size
      clear b2 hF hF2 hrow hFl RO BL
      go_wp2_with (at_builtin; refine wp_appendG w2 w2.heap.size rfl el_int rfl (.tmp 15) (.tmp 19) rfl #[.int .i64 p.2.gt.length] rfl (by simp [Value.oneCell']) w.heap.size _ k (p.1.map (Value.int .i64)) ROW.out rfl rfl (by unfold maxLen; omega) (by omega) (by omega) ?_; intro v' w9 o9 g9 k9; have gw := gbT (gbA (gbR w2 _) _) g9; have CH : Chg (fun y => (Value.slice A2 k c2).ownBlock = some y) w2 w9 := Chg.of gw (fun y hy => hy); have o9' : w9.ownsRow w.heap.size 3 1 v' (k + 1) ((p.1 ++ [(p.2.gt.length : Int)]).map (Value.int .i64)) := (by rw [List.map_append]; simpa using o9); obtain ⟨A6, c6, hv6, _⟩ := own_form o9'; have O9 := Lib.hid o9'; have CH := Lib.hid CH; clear o9 g9 k9 gw o9'; subst hv6)
      have L1 : Hid (ownF w.heap.size (cints (notsTo m xs (k + 1)).1) (.slice A6 (k + 1) c6) w9) := by rw [HPK.out]; exact Lib.hid (ownF.ints O9.out)
      have L2 : Hid (Bld 77 lo hi (notsTo m xs (k + 1)).2 g w w9) := by
        rw [HPK.out]
        refine Lib.hid ⟨BL2.out.1.chg CH.out (fun y hy => ?_), BL2.out.2.join CH.out (fun y hy => ?_)⟩
        · obtain ⟨cur, hB9, hb9⟩ := own_blk9 ROW.out hy
          exact ⟨by omega, _, _, hB9, by decide⟩
        · obtain ⟨cur, _, hb9⟩ := own_blk9 ROW.out hy
          exact .inr hb9
      go_roundw
      case rel => exact ⟨k + 1, by omega, by go_num, L1, L2⟩
      case measure => simp [intOf]; omega
    · have hkn : k = n := by omega
      subst hkn
      go_wp2_with fail
      refine bodyPost_ret (by simp [results, Try.results52]; rfl) rfl ?_
      exact ⟨_, rfl, RO.out, BL.out⟩
end Go.Proofs.Ythdfkiaoahpjpaa
