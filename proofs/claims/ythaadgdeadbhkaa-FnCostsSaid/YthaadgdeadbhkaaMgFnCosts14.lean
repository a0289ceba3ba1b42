/-
  AddShares, ScaleShares, AddConstant: reference and program, on elements.
-/
import Derived.Test.YthaadgdeadbhkaaMgFnCosts10
import Derived.Test.YthaadgdeadbhkaaMgFnCosts13
import Derived.Test.YthaadgdeadbhkaaMgFnCosts7
namespace Go.Proofs.Ythaadgdeadbhkaa
open Go.RowKit
set_option linter.unusedVariables false
set_option linter.unusedSimpArgs false
def addS (p : Int) (xs ys : List Int) : List Int := List.zipWith (fun x y => (x + y) % p) xs ys
def sclS (p : Int) (xs : List Int) (k : Int) : List Int := xs.map fun x => (x * k) % p
def cstS (p : Int) (xs : List Int) (k : Int) : List Int := xs.set 0 ((xs.getD 0 0 + k) % p)
theorem addS_len {p : Int} {xs ys : List Int} (h : xs.length = ys.length) : (addS p xs ys).length = xs.length := by simp [addS, h]
theorem sclS_len {p k : Int} {xs : List Int} : (sclS p xs k).length = xs.length := by simp [sclS]
theorem cstS_len {p k : Int} {xs : List Int} : (cstS p xs k).length = xs.length := by simp [cstS]
theorem addS_snoc {p : Int} {xs ys : List Int} {k : Nat} (h1 : k < xs.length) (h2 : k < ys.length) : (addS p xs ys).take (k + 1) = (addS p xs ys).take k ++ [(xs.getD k 0 + ys.getD k 0) % p] := by
  have hl : k < (addS p xs ys).length := by unfold addS; rw [List.length_zipWith]; omega
  rw [take_snoc' _ k hl, getI _ k hl, getI _ k h1, getI _ k h2]
  simp [addS]
theorem sclS_snoc {p c : Int} {xs : List Int} {k : Nat} (h1 : k < xs.length) : (sclS p xs c).take (k + 1) = (sclS p xs c).take k ++ [(xs.getD k 0 * c) % p] := by
  have hl : k < (sclS p xs c).length := by rw [sclS_len]; exact h1
  rw [take_snoc' _ k hl, getI _ k hl, getI _ k h1]
  simp [sclS]
theorem elem_at {p : Int} {zs : List Int} (h : elemsB p zs = true) {k : Nat} (hk : k < zs.length) : elemB p (zs.getD k 0) = true := by
  obtain ⟨hf, _, _, hz⟩ := elemsB_is h
  rw [getI zs k hk]
  have := hz _ (List.getElem_mem hk)
  exact elemB_mk hf this.1 this.2
set_option maxHeartbeats 2000000 in
theorem specAddShares_y (p : Int) (A B : Option Addr) (n ac bc : Nat) (xs ys : List Int) (w : World) (hx : elemsB p xs = true) (hy : elemsB p ys = true) (ha : Ints w A n xs) (hb : Ints w B n ys) (hn : n ≤ 1048576) :
    Calls Try.prog 138 #[.int .i64 p, .slice A n ac, .slice B n bc] w fun e w' => ∃ v, e = .returned v ∧ w'.ownsRow w.heap.size 3 1 v n ((addS p xs ys).map (Value.int .i64)) ∧ w.grownBy w' none := by
  obtain ⟨hf, p2, p101, _⟩ := elemsB_is hx
  have HX := Lib.hid hx
  have HY := Lib.hid hy
  have HA := Lib.hid ha
  have HB := Lib.hid hb
  have lx := ha.len
  have ly := hb.len
  clear hx hy ha hb hf
  go_enter Try.func138, Try.ntmps138
  go_wp2_with fail
  refine (specl03All_c p A n ac xs _ (by omega) (HA.out.grow (gbA (gbR _ _) _)) (by omega)).mono ?_
  rintro e w1 ⟨rfl, rfl⟩
  rw [HX.out]
  go_wp2_with fail
  refine (specl03All_c p B n bc ys _ (by omega) (HB.out.grow (gbA (gbR _ _) _)) (by omega)).mono ?_
  rintro e w1 ⟨rfl, rfl⟩
  rw [HY.out]
  have O0 := Lib.hid (World.ownsRow_made (e := 3) (size := 1) (base := w.heap.size) w #[] 0 (Nat.le_refl _) (by simp) rfl)
  go_wp2_with fail
  go_loopw [7, 8] (fun v i wr => ∃ (j gV c4 : Nat), j ≤ n ∧ i = .int .i64 j ∧ v = .slice (some ⟨gV, 0, none⟩) j c4 ∧ Hid (wr.ownsRow w.heap.size 3 1 v j (((addS p xs ys).take j).map (Value.int .i64))) ∧ Hid (w.grownBy wr none)) (fun _ i _ => n - (intOf i).toNat)
  case atStart => exact ⟨0, _, _, Nat.zero_le _, rfl, rfl, Lib.hid (by simpa using O0.out), Lib.hid (gbA (gbR _ _) _)⟩
  case round =>
    clear O0
    obtain ⟨j, gV, c4, hj, rfl, rfl, OW, GW⟩ := hrel
    have hgV := OW.out.lt gV rfl
    by_cases hlt : j < n
    · have i1 : (j : Int) < (n : Int) := by omega
      obtain ⟨ab, ao, rfl, hab, hac⟩ := HA.out.at_ (by omega)
      obtain ⟨bb, bo, rfl, hbb, hbc⟩ := HB.out.at_ (by omega)
      have cx := gbk GW.out (hac j hlt)
      have cy := gbk GW.out (hbc j hlt)
      have LA := Lib.hid hab
      have LBB := Lib.hid hbb
      have HS := Lib.hid (addS_snoc (p := p) (xs := xs) (ys := ys) (k := j) (by omega) (by omega))
      have EX := Lib.hid (elem_at HX.out (k := j) (by omega))
      have EY := Lib.hid (elem_at HY.out (k := j) (by omega))
      generalize xs.getD j 0 = x at *
      generalize ys.getD j 0 = y at *
      have hF := fun w => specFAdd_y p x y w EX.out EY.out
      obtain ⟨r, hr⟩ : ∃ r, (x + y) % p = r := ⟨_, rfl⟩
      rw [hr] at hF HS
      have HF := Lib.hid hF
      clear hF hr
      have CX := Lib.hid cx
      have CY := Lib.hid cy
      obtain ⟨NX, hNX⟩ : ∃ l, (((addS p xs ys).take (j + 1)).map (Value.int .i64)) = l := ⟨_, rfl⟩
      have HNX := Lib.hid hNX
      clear hac hbc cx cy hNX
      go_wp2_with fail
      refine region_reg5 [onT 34 (isV (.slice (some ⟨gV, 0, none⟩) j c4)), onT 35 (isV (.int .i64 p)), onT 36 (isV (.slice (some ⟨ab, ao, none⟩) n ac)), onT 37 (isV (.int .i64 j)), onT 38 (isV (.pointer (some ⟨ab, ao + j, none⟩))), onT 39 (isV (.int .i64 x)), onT 40 (isV (.slice (some ⟨bb, bo, none⟩) n bc)), onT 41 (isV (.int .i64 j)), onT 42 (isV (.pointer (some ⟨bb, bo + j, none⟩))), onT 43 (isV (.int .i64 y)), onT 44 (isV (.int .i64 r)), onT 45 (lit1 wr.heap.size (.int .i64 r)), onT 46 (rowL w.heap.size (j + 1) NX), eqF 7 46] 12 gV (by kernel_rfl) (by kernel_rfl) (by kernel_rfl) (by simp [stablesF, stableF_on, isV_st, rowL_st, lit1_st, eqF_st]) ?_ ?_
      · simp only [hops5, and_true]
        refine ⟨?_, ?_, ?_, ?_, ?_, ?_, ?_, ?_, ?_, ?_, ?_, ?_, ?_, ?_⟩
        rotate_left 12
        · intro f w4 hG pre old hd
          have hg4 := pre (by kernel_rfl)
          simp [depsF, bindE, List.filter_cons, bd_data, bd_chain, bd_guard, bd_phase, bd_text, bd_gc, fAt, onT_at, eqF_at, isV] at hd
          obtain ⟨h56, ⟨g1, e1, o1⟩, _⟩ := hd
          rw [e1] at o1
          have hs4 := hg4.size
          have O4 := own_grow (own_grow OW.out (gbD (gbR wr none))) hg4
          simp [puts, dsts, Act.put, h56, e1]
          refine wp_appendS w4 el_int rfl (.tmp 34) (.tmp 45) rfl w.heap.size _ j _ O4 rfl (some ⟨g1, 0, none⟩) 1 1 _ rfl (Rd.ofOwn o1) (by simp [Value.oneCell']) (by unfold maxLen; omega) (by omega) (by have := GW.out.size; simp at hs4; omega) ?_
          intro v' w5 o5 g5
          obtain ⟨An, cn, rfl, _, _⟩ := own_form o5
          have O5 : w5.ownsRow w.heap.size 3 1 (.slice An (j + 1) cn) (j + 1) NX := by rw [← HNX.out, HS.out, List.map_append]; exact o5
          refine ⟨_, rfl, ⟨An, cn, rfl, by simpa [upd_some, fAt, onT] using O5⟩, Or.inr ⟨Chg.of g5 fun x hx => by simp [Value.ownBlock] at hx; simp [hx], ?_⟩⟩
          simp [keeps, onT_at, eqF_at, isV]
          intro hk1
          obtain ⟨g2, e2, o2⟩ := hk1
          refine ⟨g2, e2, own_grown o2 g5 (.inr ?_)⟩
          rw [e2]
          have := (o2.lt g2 (by rw [e2]; rfl)).1
          have := hgV
          simp [Value.ownBlock]
          omega
        · intro f w4 hG pre old hd
          simp [depsF, bindE, List.filter_cons, bd_data, bd_chain, bd_guard, bd_phase, bd_text, bd_gc, fAt, onT_at, eqF_at, isV] at hd
          obtain ⟨⟨An, cn, e71, _⟩, _⟩ := hd
          simp [puts, dsts, Act.put, e71]
          go_wp2_with fail
          exact ⟨_, rfl, by simp [fAt, eqF_at, upd_some, e71], Or.inl (gbR _ _)⟩
        all_goals
          intro f w4 hG pre old hd
          have hg4 := pre (by kernel_rfl)
          have hs4 := hg4.size
          have kA_ := gbk hg4 (kD CX.out)
          have kB_ := gbk hg4 (kD CY.out)
          have h6 := old 7 (by kernel_rfl) (by simp [dsts])
          simp at h6
          simp [depsF, bindE, List.filter_cons, bd_data, bd_chain, bd_guard, bd_phase, bd_text, bd_gc, fAt, onT_at, eqF_at, isV] at hd
          first | simp [puts, dsts, Act.put, hd, h6] | simp [puts, dsts, Act.put, h6]
          go_wp2_with (go_at_call 143; refine (HF.out _).mono ?_; rintro e w5 ⟨rfl, hw⟩)
          first
            | exact ⟨_, rfl, by simp [fAt, onT_at, eqF_at, upd_some, isV], Or.inl (gbR _ _)⟩
            | exact ⟨_, rfl, by simp [fAt, onT_at, eqF_at, upd_some, isV], Or.inl hw⟩
            | exact ⟨_, rfl, ⟨_, rfl, own_litI hs4 _ _⟩, Or.inl (gbA (gbR _ _) _)⟩
      intro f w4 hG hd
      simp [knowsF, onT_at, eqF_at, isV] at hd
      obtain ⟨p0, p1, p2, p3, p4, p5, p6, p7, p8, p9, p10, ⟨g1, e70, _⟩, ⟨An, cn, e71, o71⟩, e6⟩ := hd
      rw [e71] at o71 e6
      have hC : Chg (fun b => b = gV) wr w4 := (Chg.of (gbD (gbR wr none)) (fun _ h => by cases h)).trans hG
      have h2 := Lib.hid (Chg.new GW.out hC (fun i hi => by omega))
      have hOS := o71
      clear hC hG o71
      simp only [puts, dsts, Act.put, p0, p1, p2, p3, p4, p5, p6, p7, p8, p9, p10, e70, e71, e6, List.filterMap_cons, List.filterMap_nil, List.setIfInBounds_toArray, List.set_cons_zero, List.set_cons_succ]
      clear p0 p1 p2 p3 p4 p5 p6 p7 p8 p9 p10 e70 e71 e6
      rw [← HNX.out] at hOS
      obtain ⟨gN, cN, hN, _, _, _⟩ := own_form2 hOS (by omega)
      rw [hN] at hOS ⊢
      have h1 := Lib.hid hOS
      go_wp2_with fail
      go_roundw
      case rel => exact ⟨j + 1, _, _, by omega, by go_num, rfl, h1, h2⟩
      case measure => simp [intOf]; omega
    · have hjn : j = n := by omega
      subst hjn
      have hO := OW.out
      rw [List.take_of_length_le (by rw [addS_len (by omega)]; omega)] at hO
      have HO := Lib.hid hO
      clear hO
      go_wp2_with fail
      go_ret
      exact ⟨_, rfl, HO.out, GW.out⟩
set_option maxHeartbeats 2000000 in
theorem specScaleShares_y (p k : Int) (A : Option Addr) (n ac : Nat) (xs : List Int) (w : World) (hx : elemsB p xs = true) (hk : elemB p k = true) (ha : Ints w A n xs) (hn : n ≤ 1048576) :
    Calls Try.prog 139 #[.int .i64 p, .slice A n ac, .int .i64 k] w fun e w' => ∃ v, e = .returned v ∧ w'.ownsRow w.heap.size 3 1 v n ((sclS p xs k).map (Value.int .i64)) ∧ w.grownBy w' none := by
  obtain ⟨hf, p2, p101, _⟩ := elemsB_is hx
  have HX := Lib.hid hx
  have HK := Lib.hid hk
  have HA := Lib.hid ha
  have lx := ha.len
  clear hx hk ha hf
  go_enter Try.func139, Try.ntmps139
  go_wp2_with fail
  have O0 := Lib.hid (World.ownsRow_made (e := 3) (size := 1) (base := w.heap.size) w #[] 0 (Nat.le_refl _) (by simp) rfl)
  go_loopw [7, 8] (fun v i wr => ∃ j : Nat, j ≤ n ∧ i = .int .i64 j ∧ Hid (wr.ownsRow w.heap.size 3 1 v j (((sclS p xs k).take j).map (Value.int .i64))) ∧ Hid (w.grownBy wr none)) (fun _ i _ => n - (intOf i).toNat)
  case atStart => exact ⟨0, Nat.zero_le _, rfl, Lib.hid (by simpa using O0.out), Lib.hid (gbA (gbR _ _) _)⟩
  case round =>
    clear O0
    obtain ⟨j, hj, rfl, OW, GW⟩ := hrel
    obtain ⟨A4, c4, rfl, _, _⟩ := own_form OW.out
    by_cases hlt : j < n
    · have i1 : (j : Int) < (n : Int) := by omega
      obtain ⟨ab, ao, rfl, hab, hac⟩ := HA.out.at_ (by omega)
      have cx := gbk GW.out (hac j hlt)
      have HS := Lib.hid (sclS_snoc (p := p) (c := k) (xs := xs) (k := j) (by omega))
      have EX := Lib.hid (elem_at HX.out (k := j) (by omega))
      have HAW := Lib.hid (HA.out.grow GW.out)
      generalize xs.getD j 0 = x at *
      clear hac
      go_wp2_with fail
      refine (specl03All_c p _ n ac xs _ (by omega) HAW.out (by omega)).mono ?_
      rintro e w1 ⟨rfl, rfl⟩
      rw [HX.out]
      go_wp2_with fail
      refine (specIsElement_c p k _ (by omega)).mono ?_
      rintro e w1 ⟨rfl, rfl⟩
      rw [HK.out]
      go_wp2_with fail
      refine (specFMul_y p x k _ EX.out HK.out).mono ?_
      rintro e w2 ⟨rfl, g2⟩
      have OW2 := Lib.hid (own_grow OW.out g2)
      have GW2 := Lib.hid (gbT GW.out g2)
      obtain ⟨r, hr⟩ : ∃ r, (x * k) % p = r := ⟨_, rfl⟩
      rw [hr] at HS ⊢
      clear g2 OW GW hr HAW
      go_wp2_with (at_builtin; (refine wp_append1h _ w2.heap.size rfl el_int rfl (.tmp 26) (.tmp 34) rfl _ rfl (by simp [Value.oneCell']) w.heap.size _ j _ OW2.out rfl rfl (by unfold maxLen; omega) (by omega) GW2.out.size ?_); intro v' w9 o9 g9; (have h1 : Hid (w9.ownsRow w.heap.size 3 1 v' (j + 1) (((sclS p xs k).take (j + 1)).map (Value.int .i64))) := (by unfold Hid; rw [HS.out, List.map_append]; exact o9); have h2 := Lib.hid (gbN GW2.out g9 (fun g e => (OW2.out.lt g e).1)); clear o9 g9 OW2 GW2))
      go_wp2_with fail
      go_roundw
      case rel => exact ⟨j + 1, by omega, by go_num, h1, h2⟩
      case measure => simp [intOf]; omega
    · have hjn : j = n := by omega
      subst hjn
      have hO := OW.out
      rw [List.take_of_length_le (by rw [sclS_len]; omega)] at hO
      have HO := Lib.hid hO
      clear hO
      go_wp2_with fail
      go_ret
      exact ⟨_, rfl, HO.out, GW.out⟩
set_option maxHeartbeats 2000000 in
theorem specAddConstant_y (p k : Int) (A : Option Addr) (n ac : Nat) (xs : List Int) (w : World) (hx : elemsB p xs = true) (hk : elemB p k = true) (ha : Ints w A n xs) (hn1 : 1 ≤ n) (hn : n ≤ 1048576) :
    Calls Try.prog 137 #[.int .i64 p, .slice A n ac, .int .i64 k] w fun e w' => ∃ v, e = .returned v ∧ w'.ownsRow w.heap.size 3 1 v n ((cstS p xs k).map (Value.int .i64)) ∧ w.grownBy w' none := by
  obtain ⟨hf, p2, p101, _⟩ := elemsB_is hx
  have HX := Lib.hid hx
  have HK := Lib.hid hk
  have HA := Lib.hid ha
  have lx := ha.len
  obtain ⟨ab, ao, rfl, hab, hac⟩ := ha.at_ (by omega)
  have cx := hac 0 (by omega)
  rw [Nat.add_zero] at cx
  have EX := Lib.hid (elem_at HX.out (k := 0) (by omega))
  have hF := fun w => specFAdd_y p (xs.getD 0 0) k w EX.out HK.out
  have HC : Hid ((cstS p xs k).map (Value.int .i64) = (xs.map (Value.int .i64)).set 0 (.int .i64 ((xs.getD 0 0 + k) % p))) := by unfold Hid cstS; rw [List.map_set]
  obtain ⟨r, hr⟩ : ∃ r, (xs.getD 0 0 + k) % p = r := ⟨_, rfl⟩
  rw [hr] at hF HC
  have HF := Lib.hid hF
  have hn0 : ((n : Int) == 0) = false := by simp; omega
  have HXAt : Hid ((xs.map (Value.int .i64))[0]? = some (.int .i64 (xs.getD 0 0))) := by
    unfold Hid
    rw [List.getElem?_map, List.getElem?_eq_getElem (show 0 < xs.length by omega), getI xs 0 (by omega)]
    rfl
  clear hx hk ha hf hac hF hr
  generalize xs.getD 0 0 = x at *
  go_enter Try.func137, Try.ntmps137
  go_wp2_with fail
  refine (specl03All_c p _ n ac xs _ (by omega) HA.out (by omega)).mono ?_
  rintro e w1 ⟨rfl, rfl⟩
  rw [HX.out]
  go_wp2_with fail
  refine (specIsElement_c p k _ (by omega)).mono ?_
  rintro e w1 ⟨rfl, rfl⟩
  rw [HK.out]
  have O0 := Lib.hid (World.ownsRow_made (e := 3) (size := 1) (base := w.heap.size) w #[] 0 (Nat.le_refl _) (by simp) rfl)
  have HA1 := Lib.hid (HA.out.grow (gbA (gbR w none) (.cells #[] 3)))
  go_wp2_with (at_builtin; (refine wp_appendS _ el_int rfl (.tmp 24) (.tmp 25) rfl w.heap.size _ 0 _ O0.out rfl _ n ac (xs.map (Value.int .i64)) rfl HA1.out (by simp [Value.oneCell']) (by unfold maxLen; omega) (by omega) (by simp) ?_); intro v1 w1 o1 g1; (rw [Nat.zero_add, List.nil_append] at o1; obtain ⟨g, c, hv1, _, hg, _⟩ := own_form2 o1 (by omega); subst hv1; have O1 := Lib.hid o1; have c0 := (o1.cellAt 0 (by omega)).trans HXAt.out; have f0 := o1.frozenAt 0; have G1 := Lib.hid (gbN (gbA (gbR w none) (.cells #[] 3)) g1 (fun y hy => by simp [Value.ownBlock] at hy; omega)); have cx1 := gbk G1.out cx; clear o1 g1))
  go_wp2_with fail
  refine (HF.out _).mono ?_
  rintro e w2 ⟨rfl, g2⟩
  have O2 := Lib.hid (own_grow O1.out g2)
  have c2 := (O2.out.cellAt 0 (by omega)).trans HXAt.out
  have f2 := O2.out.frozenAt 0
  have OS := Lib.hid (O2.out.stored 0 (.int .i64 r)).1
  have GS := Lib.hid (gbS (gbT G1.out g2) (p := ⟨g, 0, none⟩) (by have := hg; simpa using this) (.int .i64 r))
  clear g2 O1 G1 O2
  go_wp2_with fail
  go_ret
  exact ⟨_, rfl, by rw [HC.out]; exact OS.out, GS.out⟩
end Go.Proofs.Ythaadgdeadbhkaa
/-
  AuthAdd, AuthScale: reference and program.
-/
namespace Go.Proofs.Ythaadgdeadbhkaa
open Go.RowKit
set_option linter.unusedVariables false
set_option linter.unusedSimpArgs false
def noA : AuM := ⟨[], []⟩
def authAdd (k : KM) (a b : AuM) : AuM := if formB k a && formB k b then ⟨addS k.p a.sh b.sh, addS k.p a.mc b.mc⟩ else noA
def authScale (k : KM) (a : AuM) (c : Int) : AuM := if formB k a && elemB k.p c then ⟨sclS k.p a.sh c, sclS k.p a.mc c⟩ else noA
theorem form_is {k : KM} {a : AuM} (h : formB k a = true) : keysB k = true ∧ a.sh.length = k.al.length ∧ a.mc.length = k.al.length ∧ elemsB k.p a.sh = true ∧ elemsB k.p a.mc = true ∧ elemsB k.p k.al = true ∧ 1 ≤ k.al.length ∧ k.al.length ≤ 5 := by
  unfold formB formA keysB at h
  simp only [Bool.and_eq_true, beq_iff_eq] at h
  obtain ⟨⟨h1, h2⟩, ⟨⟨h3, h4⟩, h5⟩, h6⟩ := h
  have h7 := inQ_is h2
  refine ⟨by unfold keysB; rw [h1, h2]; rfl, by omega, by omega, h5, h6, h1, by omega, by omega⟩
def row1 (lo n : Nat) (L : List Int) (v : Value) (w : World) : Prop := ∃ A c, v = .slice A n c ∧ w.ownsRow lo 3 1 v n (L.map (Value.int .i64))
def row2 (lo n m : Nat) (L M : List Int) (v u : Value) (w : World) : Prop := row1 lo n L v w ∧ row1 lo m M u w ∧ ∀ g, v.ownBlock = some g → u.ownBlock ≠ some g
theorem row1.grow {lo n : Nat} {L : List Int} {v : Value} {w w' : World} (h : row1 lo n L v w) (hg : w.grownBy w' none) : row1 lo n L v w' := by
  obtain ⟨A, c, h1, h2⟩ := h
  exact ⟨A, c, h1, own_grow h2 hg⟩
theorem row1.of {lo n : Nat} {L : List Int} {v : Value} {w : World} (h : w.ownsRow lo 3 1 v n (L.map (Value.int .i64))) : row1 lo n L v w := by
  obtain ⟨A, c, e, _⟩ := own_form h
  exact ⟨A, c, e, h⟩
theorem row2.of {lo n m : Nat} {L M : List Int} {v u : Value} {w w' : World} (h : row1 lo n L v w) (hg : w.grownBy w' none) (hl : lo ≤ w.heap.size) (k : w'.ownsRow w.heap.size 3 1 u m (M.map (Value.int .i64))) : row2 lo n m L M v u w' := by
  refine ⟨h.grow hg, row1.of (own_base k hl), fun g hg' hu => ?_⟩
  obtain ⟨A, c, _, h2⟩ := h
  have h3 := (h2.lt g hg').2
  have h4 := (k.lt g hu).1
  omega
theorem row2.agg {lo n m : Nat} {L M : List Int} {v u : Value} {w : World} (h : row2 lo n m L M v u w) : ∃ F, AggO w (cauth ⟨L, M⟩) F (.agg #[v, u]) ∧ ∀ g ∈ F, lo ≤ g := by
  obtain ⟨⟨A, c, h1, h2⟩, ⟨B, d, k1, k2⟩, h3⟩ := h
  have o1 := cints_own h2
  have o2 := cints_own k2
  refine ⟨_, cauth_omk (m := ⟨L, M⟩) o1 o2 (fun g hg hg' => h3 g (by simpa using hg) (by simpa using hg')), fun g hg => ?_⟩
  simp at hg
  rcases hg with hg | hg
  · exact (h2.lt g hg).1
  · exact (k2.lt g hg).1
theorem row2.f1 {lo n m : Nat} {L M : List Int} {v u : Value} {w : World} (h : row2 lo n m L M v u w) : ∃ A c, v = .slice A n c := by
  obtain ⟨⟨A, c, h1, _⟩, _⟩ := h
  exact ⟨A, c, h1⟩
theorem row2.f2 {lo n m : Nat} {L M : List Int} {v u : Value} {w : World} (h : row2 lo n m L M v u w) : ∃ A c, u = .slice A m c := by
  obtain ⟨_, ⟨A, c, h1, _⟩, _⟩ := h
  exact ⟨A, c, h1⟩
theorem noA_own (w : World) : AggO w (cauth noA) [[], []].flatten (.agg #[.slice none 0 0, .slice none 0 0]) := by
  have h : (cints []).own w [] (.slice none 0 0) := cints_own (n := 0) (base := 0) ⟨rfl, .inl ⟨rfl, rfl⟩⟩
  exact cauth_omk (m := noA) h h (by simp)
def autF (lo : Nat) (m : AuM) (v : Value) (w : World) : Prop := ∃ F, AggO w (cauth m) F v ∧ ∀ g ∈ F, lo ≤ g
theorem autF.grow {lo : Nat} {m : AuM} {v : Value} {w w' : World} (h : autF lo m v w) (hg : w.grownBy w' none) : autF lo m v w' := by
  obtain ⟨F, h1, h2⟩ := h
  exact ⟨F, h1.grow hg, h2⟩
theorem autF.form {lo : Nat} {m : AuM} {v : Value} {w : World} (h : autF lo m v w) : ∃ A n c B k d, v = .agg #[.slice A n c, .slice B k d] := by
  obtain ⟨F, h1, _⟩ := h
  exact cauth_oform h1
theorem autF.chg {lo g : Nat} {m : AuM} {v : Value} {w w' : World} (h : autF lo m v w) (k : Chg (fun y => y = g) w w') (hg : g < lo) : autF lo m v w' := by
  obtain ⟨F, h1, h2⟩ := h
  exact ⟨F, h1.chg k (fun x hx (e : x = g) => by have := h2 x hx; omega), h2⟩
theorem autF.lo {lo lo' : Nat} {m : AuM} {v : Value} {w : World} (h : autF lo m v w) (hl : lo' ≤ lo) : autF lo' m v w := by
  obtain ⟨F, h1, h2⟩ := h
  exact ⟨F, h1, fun g hg => Nat.le_trans hl (h2 g hg)⟩
theorem specAddShares_z (p : Int) (A B : Option Addr) (n m ac bc : Nat) (xs ys : List Int) (w : World) (hm : m = n) (hx : elemsB p xs = true) (hy : elemsB p ys = true) (ha : Ints w A n xs) (hb : Ints w B m ys) (hn : n ≤ 1048576) :
    Calls Try.prog 138 #[.int .i64 p, .slice A n ac, .slice B m bc] w fun e w' => ∃ v, e = .returned v ∧ w'.ownsRow w.heap.size 3 1 v n ((addS p xs ys).map (Value.int .i64)) ∧ w.grownBy w' none := by
  subst hm
  exact specAddShares_y p A B m ac bc xs ys w hx hy ha hb hn
set_option maxHeartbeats 2000000 in
set_option maxRecDepth 100000 in
theorem specAuthAdd_c (k : KM) (a b : AuM) (kv av bv : Value) (w0 : World) (h : AggR w0 (ckeys k) kv) (ha : AggR w0 (cauth a) av) (hb : AggR w0 (cauth b) bv) (wk : kwf k) (wa : awf a) (wb : awf b) :
    Calls Try.prog 140 #[kv, av, bv] w0 fun e w' => ∃ v, e = .returned v ∧ autF w0.heap.size (authAdd k a b) v w' ∧ w0.grownBy w' none := by
  obtain ⟨A, c, rfl, hc, hm, hI⟩ := ckeys_sl h
  obtain ⟨Ba, da, Ca, fa, rfl, _, _, _, _, hSa, hMa⟩ := cauth_sl ha
  obtain ⟨Bb, db, Cb, fb, rfl, _, _, _, _, hSb, hMb⟩ := cauth_sl hb
  obtain ⟨w1, hw1⟩ : ∃ x : World, (((w0.alloc (.cells #[.int .i64 k.p, .slice A k.al.length c] 26)).alloc (.cells #[.slice Ba a.sh.length da, .slice Ca a.mc.length fa] 44)).alloc (.cells #[.slice Bb b.sh.length db, .slice Cb b.mc.length fb] 44)).alloc (.cells #[.slice none 0 0, .slice none 0 0] 44) = x := ⟨_, rfl⟩
  have G1 : Hid (w0.grownBy w1 none) := by rw [← hw1]; exact gbA (gbA (gbA (gbA (gbR _ _) _) _) _) _
  have z1 : Hid (w1.heap.size = w0.heap.size + 4) := by rw [← hw1]; exact Lib.hid (by simp)
  have D0 : Hid (Blk w1 w0.heap.size 26 #[.int .i64 k.p, .slice A k.al.length c]) := by rw [← hw1]; exact (((Blk.new w0 _ _).grow (gbA (gbR _ _) _)).grow (gbA (gbR _ _) _)).grow (gbA (gbR _ _) _)
  have D1 : Hid (Blk w1 (w0.heap.size + 1) 44 #[.slice Ba a.sh.length da, .slice Ca a.mc.length fa]) := by rw [← hw1]; exact ((Blk.new' _ _ _ _ (by simp)).grow (gbA (gbR _ _) _)).grow (gbA (gbR _ _) _)
  have D2 : Hid (Blk w1 (w0.heap.size + 1 + 1) 44 #[.slice Bb b.sh.length db, .slice Cb b.mc.length fb]) := by rw [← hw1]; exact (Blk.new' _ _ _ _ (by simp)).grow (gbA (gbR _ _) _)
  have D3 : Hid (Blk w1 (w0.heap.size + 1 + 1 + 1) 44 #[.slice none 0 0, .slice none 0 0]) := by rw [← hw1]; exact Blk.new' _ _ _ _ (by simp)
  have HK := Lib.hid (AggR.grow h G1.out)
  have HAa := Lib.hid (AggR.grow ha G1.out)
  have HAb := Lib.hid (AggR.grow hb G1.out)
  have ISa := Lib.hid (hSa.grow G1.out)
  have IMa := Lib.hid (hMa.grow G1.out)
  have ISb := Lib.hid (hSb.grow G1.out)
  have IMb := Lib.hid (hMb.grow G1.out)
  have WK := Lib.hid wk
  have WA := Lib.hid wa
  have WB := Lib.hid wb
  clear h ha hb hI hSa hMa hSb hMb wk wa wb
  have HFO : Hid (authAdd k a b = if formB k a && formB k b then ⟨addS k.p a.sh b.sh, addS k.p a.mc b.mc⟩ else noA) := rfl
  go_enter Try.func140, Try.ntmps140
  have k0 := D0.out.cell 0
  have k1 := D0.out.cell 1
  have a0 := D1.out.cell 0
  have a1 := D1.out.cell 1
  have b0 := D2.out.cell 0
  have b1 := D2.out.cell 1
  simp at k0 k1 a0 a1 b0 b1
  go_wp2_with fail
  clear k0 k1 a0 a1 b0 b1 hw1
  refine (specl23Form_c k a _ _ _ HK.out HAa.out WK.out WA.out).mono ?_
  rintro e w2 ⟨rfl, g2⟩
  cases hfa : formB k a
  · rw [hfa] at HFO
    have RS := Lib.hid (blk_setCells (D3.out.grow g2) [.slice none 0 0, .slice none 0 0] rfl)
    have CH := Lib.hid (chg_setCells (w0.heap.size + 1 + 1 + 1) [.slice none 0 0, .slice none 0 0] 0 w2)
    have r0 := (D3.out.grow g2).cell 0
    have r1 := (D3.out.grow g2).cell 1
    have s0 := (D3.out.grow g2).frozen 0
    have s1 := (D3.out.grow g2).frozen 1
    simp at r0 r1
    have GG := Lib.hid (gbT G1.out g2)
    clear g2
    go_wp2_with fail
    refine ret_c Try.results140 (by rfl) stAuth (cs := #[.slice none 0 0, .slice none 0 0]) RS.out (by rfl) (by rfl) ?_
    exact ⟨_, rfl, by rw [HFO.out]; exact ⟨_, noA_own _, by simp⟩, gb_chg GG.out CH.out (by omega)⟩
  have k0 := (D0.out.grow g2).cell 0
  have k1 := (D0.out.grow g2).cell 1
  have b0 := (D2.out.grow g2).cell 0
  have b1 := (D2.out.grow g2).cell 1
  simp at k0 k1 b0 b1
  have Q2 := Lib.hid g2
  clear g2
  go_wp2_with fail
  clear k0 k1 b0 b1
  refine (specl23Form_c k b _ _ _ (AggR.grow HK.out Q2.out) (AggR.grow HAb.out Q2.out) WK.out WB.out).mono ?_
  rintro e wz ⟨rfl, g3⟩
  have gz := gbT Q2.out g3
  clear g3
  cases hfb : formB k b
  · rw [hfa, hfb] at HFO
    have RS := Lib.hid (blk_setCells (D3.out.grow gz) [.slice none 0 0, .slice none 0 0] rfl)
    have CH := Lib.hid (chg_setCells (w0.heap.size + 1 + 1 + 1) [.slice none 0 0, .slice none 0 0] 0 wz)
    have r0 := (D3.out.grow gz).cell 0
    have r1 := (D3.out.grow gz).cell 1
    have s0 := (D3.out.grow gz).frozen 0
    have s1 := (D3.out.grow gz).frozen 1
    simp at r0 r1
    have GG := Lib.hid (gbT G1.out gz)
    clear gz
    go_wp2_with fail
    refine ret_c Try.results140 (by rfl) stAuth (cs := #[.slice none 0 0, .slice none 0 0]) RS.out (by rfl) (by rfl) ?_
    exact ⟨_, rfl, by rw [HFO.out]; exact ⟨_, noA_own _, by simp⟩, gb_chg GG.out CH.out (by omega)⟩
  rw [hfa, hfb] at HFO
  obtain ⟨_, la1, la2, ea1, ea2, _, ln1, ln5⟩ := form_is hfa
  obtain ⟨_, lb1, lb2, eb1, eb2, _, _, _⟩ := form_is hfb
  rw [Bool.and_self, if_pos rfl] at HFO
  have D0' := Lib.hid (D0.out.grow gz)
  have D1' := Lib.hid (D1.out.grow gz)
  have D2' := Lib.hid (D2.out.grow gz)
  have D3' := Lib.hid (D3.out.grow gz)
  have GW := Lib.hid (gbT G1.out gz)
  have ISa' := Lib.hid (ISa.out.grow gz)
  have IMa' := Lib.hid (IMa.out.grow gz)
  have ISb' := Lib.hid (ISb.out.grow gz)
  have IMb' := Lib.hid (IMb.out.grow gz)
  have LE1 : Hid (b.sh.length = a.sh.length) := Lib.hid (by omega)
  have LE2 : Hid (b.mc.length = a.mc.length) := Lib.hid (by omega)
  have LN1 : Hid (a.sh.length ≤ 1048576) := Lib.hid (by omega)
  have LN2 : Hid (a.mc.length ≤ 1048576) := Lib.hid (by omega)
  have EA1 := Lib.hid ea1
  have EA2 := Lib.hid ea2
  have EB1 := Lib.hid eb1
  have EB2 := Lib.hid eb2
  have zz := gz.size
  clear la1 la2 lb1 lb2 hfa hfb gz D0 D1 D2 D3 G1 ISa IMa ISb IMb HK HAa HAb WK WA WB ea1 ea2 eb1 eb2
  go_wp2_with fail
  obtain ⟨lo, hlo⟩ : ∃ lo, w0.heap.size + 4 = lo := ⟨_, rfl⟩
  obtain ⟨gR, hgR'⟩ : ∃ g, w0.heap.size + 1 + 1 + 1 = g := ⟨_, rfl⟩
  have hgR : gR < lo := by omega
  have hwR : w0.heap.size ≤ gR := by omega
  have hlz : lo ≤ wz.heap.size := by have := z1.out; omega
  rw [hgR'] at D3' ⊢
  refine region_chain [.rd (.pointer (some ⟨w0.heap.size, 0, none⟩)), .rd (.int .i64 k.p), .rd (.pointer (some ⟨w0.heap.size + 1, 0, none⟩)), .rd (.slice Ba a.sh.length da), .rd (.pointer (some ⟨w0.heap.size + 1 + 1, 0, none⟩)), .rd (.slice Bb b.sh.length db), .ch, .rd (.pointer (some ⟨w0.heap.size, 0, none⟩)), .rd (.int .i64 k.p), .rd (.pointer (some ⟨w0.heap.size + 1, 1, none⟩)), .rd (.slice Ca a.mc.length fa), .rd (.pointer (some ⟨w0.heap.size + 1 + 1, 1, none⟩)), .rd (.slice Cb b.mc.length fb), .ch, .ch, .ch] (fun _ => False)
    [⟨[], fun _ w' => wz.drew.grownBy w' none⟩,
     ⟨[24], fun l w' => row1 lo a.sh.length (addS k.p a.sh b.sh) (l.getD 0 undef) w' ∧ wz.drew.grownBy w' none⟩,
     ⟨[24, 31], fun l w' => row2 lo a.sh.length a.mc.length (addS k.p a.sh b.sh) (addS k.p a.mc b.mc) (l.getD 0 undef) (l.getD 1 undef) w' ∧ wz.drew.grownBy w' none⟩,
     ⟨[32], fun l w' => autF lo ⟨(addS k.p a.sh b.sh), (addS k.p a.mc b.mc)⟩ (l.getD 0 undef) w' ∧ wz.drew.grownBy w' none⟩,
     ⟨[], fun _ w' => (∃ A9 n9 c9 B9 k9 d9, autF lo ⟨(addS k.p a.sh b.sh), (addS k.p a.mc b.mc)⟩ (.agg #[.slice A9 n9 c9, .slice B9 k9 d9]) w' ∧ Blk w' gR 44 #[.slice A9 n9 c9, .slice B9 k9 d9]) ∧ wz.heap.size ≤ w'.heap.size ∧ w0.grownBy w' none⟩]
    (by kernel_rfl) (by kernel_rfl) (by kernel_rfl) 4 (by kernel_rfl) (by simp only [flOk, and_true]) (gbR _ _) rfl ?_ ?_
  · simp only [hopsK, hopK, Kd.next, and_true]
    refine ⟨?_, ?_, ?_, ?_, ?_, ?_, ?_, ?_, ?_, ?_, ?_, ?_, ?_, ?_, ?_, ?_⟩
    rotate_left 6
    · intro f w4 hG hI hd
      have hI : wz.drew.grownBy w4 none := hI
      have hg4 := gbT (gbD (gbR wz none)) hI
      have hz4 := hg4.size
      (try simp [depsC, dstAt, kAt, bindE, List.filter_cons, bd_data, bd_chain, bd_guard, bd_phase, bd_text, bd_gc] at hd)
      (first | simp [puts, dsts, Act.put, hd] | simp [puts, dsts, Act.put])
      clear hd
      go_wp2_with fail
      refine (specAddShares_z k.p Ba Bb a.sh.length b.sh.length da db a.sh b.sh w4 LE1.out EA1.out EB1.out (ISa'.out.grow hg4) (ISb'.out.grow hg4) LN1.out).mono ?_
      rintro e w6 ⟨v6, rfl, o6, g6⟩
      have O6 := Lib.hid (own_base o6 (show lo ≤ w4.heap.size by omega))
      have G6 := Lib.hid (gbT hI g6)
      have Q6 := Lib.hid g6
      clear o6 g6
      go_wp2_with fail
      exact ⟨_, rfl, ⟨row1.of O6.out, G6.out⟩, ⟨Chg.of Q6.out (by simp), by simp [keepsC]⟩⟩
    rotate_left 6
    · intro f w4 hG hI hd
      obtain ⟨h1, hI⟩ := hI
      have H1 : Hid (row1 lo a.sh.length (addS k.p a.sh b.sh) (f 24) w4) := Lib.hid h1
      have hg4 := gbT (gbD (gbR wz none)) hI
      have hz4 := hg4.size
      clear h1
      (try simp [depsC, dstAt, kAt, bindE, List.filter_cons, bd_data, bd_chain, bd_guard, bd_phase, bd_text, bd_gc] at hd)
      (first | simp [puts, dsts, Act.put, hd] | simp [puts, dsts, Act.put])
      clear hd
      go_wp2_with fail
      refine (specAddShares_z k.p Ca Cb a.mc.length b.mc.length fa fb a.mc b.mc w4 LE2.out EA2.out EB2.out (IMa'.out.grow hg4) (IMb'.out.grow hg4) LN2.out).mono ?_
      rintro e w6 ⟨v6, rfl, o6, g6⟩
      have R6 := Lib.hid (row2.of H1.out g6 (show lo ≤ w4.heap.size by omega) o6)
      have G6 := Lib.hid (gbT hI g6)
      have Q6 := Lib.hid g6
      clear o6 g6
      go_wp2_with fail
      exact ⟨_, rfl, ⟨R6.out, G6.out⟩, ⟨Chg.of Q6.out (by simp), by simp [keepsC]⟩⟩
    · intro f w4 hG hI hd
      obtain ⟨h1, hI⟩ := hI
      have h1 : row2 lo a.sh.length a.mc.length (addS k.p a.sh b.sh) (addS k.p a.mc b.mc) (f 24) (f 31) w4 := h1
      have HA := h1.agg
      obtain ⟨A1, c1, e1⟩ := h1.f1
      obtain ⟨A2, c2, e2⟩ := h1.f2
      rw [e1, e2] at HA
      have HA := Lib.hid HA
      clear h1 hd
      simp [puts, dsts, Act.put, e1, e2]
      go_wp2_with fail
      exact ⟨_, rfl, ⟨HA.out, hI⟩, ⟨Chg.refl _ _, by simp [keepsC]⟩⟩
    · intro f w4 hG hI hd
      obtain ⟨h1, hI⟩ := hI
      have h1 : autF lo ⟨(addS k.p a.sh b.sh), (addS k.p a.mc b.mc)⟩ (f 32) w4 := h1
      obtain ⟨A9, n9, c9, B9, k9, d9, e9⟩ := h1.form
      rw [e9] at h1
      have hg4 := gbT (gbD (gbR wz none)) hI
      have R4 := (D3'.out).grow hg4
      have f0 := R4.frozen 0
      have f1 := R4.frozen 1
      have b0 := R4.cell 0
      have b1 := R4.cell 1
      simp at b0 b1
      have RS := Lib.hid (blk_setCells R4 [.slice A9 n9 c9, .slice B9 k9 d9] rfl)
      have CH := chg_setCells gR [.slice A9 n9 c9, .slice B9 k9 d9] 0 w4
      have AS := Lib.hid (h1.chg CH hgR)
      have GS := Lib.hid (gb_chg (gbT GW.out hg4) CH hwR)
      have ZS := Lib.hid (Nat.le_trans hg4.size CH.size)
      clear R4 h1 hI CH
      (try simp [depsC, dstAt, kAt, bindE, List.filter_cons, bd_data, bd_chain, bd_guard, bd_phase, bd_text, bd_gc] at hd)
      simp [puts, dsts, Act.put, e9]
      go_wp2_with fail
      exact ⟨rfl, .bool false, ⟨A9, n9, c9, B9, k9, d9, AS.out, RS.out⟩, ZS.out, GS.out⟩
    all_goals
      intro f w4 hG hd
      have hg4 := gbT (gbD (gbR wz none)) (chgF hG)
      have k0 := (D0'.out.grow hg4).cell 0; have k1 := (D1'.out.grow hg4).cell 0; have k2 := (D1'.out.grow hg4).cell 1; have k3 := (D2'.out.grow hg4).cell 0; have k4 := (D2'.out.grow hg4).cell 1; simp at k0 k1 k2 k3 k4
      (try simp [depsC, dstAt, kAt, bindE, List.filter_cons, bd_data, bd_chain, bd_guard, bd_phase, bd_text, bd_gc] at hd)
      (first | simp [puts, dsts, Act.put, hd] | simp [puts, dsts, Act.put])
      clear hd
      go_wp2_with fail
      exact ⟨rfl, rfl⟩
  intro f w9 hI hd
  obtain ⟨⟨A9, n9, c9, B9, k9, d9, hAU, hBR⟩, _, hGZ⟩ := hI
  simp only [puts, dsts, Act.put, List.filterMap_cons, List.filterMap_nil, List.setIfInBounds_toArray, List.set_cons_zero, List.set_cons_succ]
  clear hd
  go_wp2_with fail
  refine ret_c Try.results140 (by rfl) stAuth (cs := #[.slice A9 n9 c9, .slice B9 k9 d9]) hBR (by rfl) (by rfl) ?_
  exact ⟨_, rfl, by rw [HFO.out]; exact autF.lo hAU (by omega), hGZ⟩
end Go.Proofs.Ythaadgdeadbhkaa
