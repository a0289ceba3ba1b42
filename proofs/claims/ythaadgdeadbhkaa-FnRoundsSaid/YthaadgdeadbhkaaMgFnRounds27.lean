/-
  RoundsOf, MulsAt, ArithCost, UsedErrors: reference and program.
-/
import Derived.Test.YthaadgdeadbhkaaMgFnRounds13
import Derived.Test.YthaadgdeadbhkaaMgFnRounds14
import Derived.Test.YthaadgdeadbhkaaMgFnRounds6
namespace Go.Proofs.Ythaadgdeadbhkaa
open Go.RowKit
set_option linter.unusedVariables false
set_option linter.unusedSimpArgs false
def maxTo (l : List Int) : Nat → Int
  | 0 => 0
  | k + 1 => max (maxTo l k) (l.getD k 0)
noncomputable def rounds (m : AM) : Int := maxTo (mdepth m) (mdepth m).length
theorem mdepth_bd (m : AM) : ∀ d ∈ mdepth m, 0 ≤ d ∧ d ≤ 60 := by
  by_cases h : AOk m
  · rw [mdepth_yes h]
    intro d hd
    have := depsS_bd' m _ d hd
    have := h.few
    omega
  · rw [mdepth_no h]; simp
theorem maxTo_bd (m : AM) : ∀ k, 0 ≤ maxTo (mdepth m) k ∧ maxTo (mdepth m) k ≤ 60
  | 0 => by simp [maxTo]
  | k + 1 => by
    have ih := maxTo_bd m k
    have h : 0 ≤ (mdepth m).getD k 0 ∧ (mdepth m).getD k 0 ≤ 60 := by
      rcases Nat.lt_or_ge k (mdepth m).length with hk | hk
      · rw [getI _ _ hk]; exact mdepth_bd m _ (List.getElem_mem hk)
      · rw [List.getD_eq_getElem?_getD, List.getElem?_eq_none hk]; simp
    rw [maxTo]; omega
theorem rounds_bd (m : AM) : 0 ≤ rounds m ∧ rounds m ≤ 60 := maxTo_bd m _
set_option maxHeartbeats 1000000 in
theorem specRoundsOf_c (m : AM) (v : Value) (w : World) (h : AggR w (carith m) v) (wf : m.wf) :
    Calls Try.prog 12 #[v] w fun e w' => e = .returned (.int .i64 (rounds m)) ∧ w.grownBy w' none := by
  have HV := Lib.hid h
  obtain ⟨u1, u2, rfl, h1, h2⟩ := carith_open h
  have HW := Lib.hid wf
  clear h h1 h2 wf
  go_enter Try.func12, Try.ntmps12
  go_wp2_with fail
  refine (specMulDepth_c m _ _ (AggR.grow HV.out (gbA (gbR w none) _)) HW.out).mono ?_
  rintro e w1 ⟨V, rfl, o1, g⟩
  have G := Lib.hid (gbT (gbA (gbR w none) _) g)
  obtain ⟨S, sc, rfl, _, hml⟩ := own_form o1
  have HI := Lib.hid (show Ints w1 S (mdepth m).length (mdepth m) from Rd.ofOwn o1)
  have HB := Lib.hid (fun k => maxTo_bd m k)
  have HR : Hid (rounds m = maxTo (mdepth m) (mdepth m).length) := rfl
  have h60 := mdepth_few m
  clear g o1
  generalize mdepth m = l at *
  generalize hln : l.length = n at *
  clear hln
  go_wp2_with fail
  go_loop [3, 5] (fun s i => ∃ k : Nat, k ≤ n ∧ i = .int .i64 k ∧ s = .int .i64 (maxTo l k)) (fun _ i => n - (intOf i).toNat)
  case atStart => exact ⟨0, Nat.zero_le _, rfl, rfl⟩
  case round =>
    obtain ⟨k, hk, rfl, rfl⟩ := hrel
    by_cases hlt : k < n
    · obtain ⟨b, o, rfl, hb, q0⟩ := Ints.cell HI.out hlt
      have i1 : (k : Int) < (n : Int) := by omega
      have HS : Hid (maxTo l (k + 1) = max (maxTo l k) (l.getD k 0)) := rfl
      generalize maxTo l k = a at *
      generalize l.getD k 0 = d at *
      go_wp2_with fail
      go_round
      case rel => exact ⟨k + 1, by omega, by go_num, by rw [HS.out, ← mxIs]⟩
      case measure => simp [intOf]; omega
    · have hkn : k = n := by omega
      subst hkn
      go_wp2_with fail
      go_ret
      exact ⟨retI HR.out.symm, G.out⟩
set_option maxHeartbeats 1000000 in
theorem implRoundsOf_c (m : AM) (v : Value) (w : World) (h : AggR w (carith m) v) (wf : m.wf) :
    Calls Try.prog 78 #[v] w fun e w' => e = .returned (.int .i64 (rounds m)) ∧ w.grownBy w' none := by
  have HV := Lib.hid h
  obtain ⟨u1, u2, rfl, h1, h2⟩ := carith_open h
  have HW := Lib.hid wf
  clear h h1 h2 wf
  go_enter Try.func78, Try.ntmps78
  go_wp2_with fail
  refine (implMulDepth_c m _ _ (AggR.grow HV.out (gbA (gbR w none) _)) HW.out).mono ?_
  rintro e w1 ⟨V, rfl, o1, g⟩
  have G := Lib.hid (gbT (gbA (gbR w none) _) g)
  obtain ⟨S, sc, rfl, _, hml⟩ := own_form o1
  have HI := Lib.hid (show Ints w1 S (mdepth m).length (mdepth m) from Rd.ofOwn o1)
  have HB := Lib.hid (fun k => maxTo_bd m k)
  have HR : Hid (rounds m = maxTo (mdepth m) (mdepth m).length) := rfl
  have h60 := mdepth_few m
  clear g o1
  generalize mdepth m = l at *
  generalize hln : l.length = n at *
  clear hln
  go_wp2_with fail
  go_loop [3, 9] (fun s i => ∃ k : Nat, k ≤ n ∧ i = .int .i64 k ∧ s = .int .i64 (maxTo l k)) (fun _ i => n - (intOf i).toNat)
  case atStart => exact ⟨0, Nat.zero_le _, rfl, rfl⟩
  case round =>
    obtain ⟨k, hk, rfl, rfl⟩ := hrel
    by_cases hlt : k < n
    · obtain ⟨b, o, rfl, hb, q0⟩ := Ints.cell HI.out hlt
      have i1 : (k : Int) < (n : Int) := by omega
      have HS : Hid (maxTo l (k + 1) = max (maxTo l k) (l.getD k 0)) := rfl
      generalize maxTo l k = a at *
      generalize l.getD k 0 = d at *
      go_wp2_with fail
      go_round
      case rel => exact ⟨k + 1, by omega, by go_num, by rw [HS.out, ← mxIs]⟩
      case measure => simp [intOf]; omega
    · have hkn : k = n := by omega
      subst hkn
      go_wp2_with fail
      go_ret
      exact ⟨retI HR.out.symm, G.out⟩
noncomputable def mulsTo (m : AM) (d : Int) : Nat → List Int
  | 0 => []
  | k + 1 => mulsTo m d k ++ if (stAt m k).1 = 4 ∧ (mdepth m).getD k 0 = d then [(k : Int)] else []
noncomputable def mulsAt (m : AM) (d : Int) : List Int := mulsTo m d (mdepth m).length
theorem mulsTo_len (m : AM) (d : Int) : ∀ k, (mulsTo m d k).length ≤ k
  | 0 => by simp [mulsTo]
  | k + 1 => by
    have := mulsTo_len m d k
    rw [mulsTo, List.length_append]
    split <;> simp <;> omega
theorem mulsAt_few (m : AM) (d : Int) : (mulsAt m d).length ≤ 60 := Nat.le_trans (mulsTo_len m d _) (mdepth_few m)
theorem mdepth_len {m : AM} (h : AOk m) : (mdepth m).length = m.st.length := by rw [mdepth_yes h, depsS_len]
theorem mdepth_le (m : AM) : (mdepth m).length ≤ m.st.length := by
  by_cases h : AOk m
  · rw [mdepth_len h]; exact Nat.le_refl _
  · rw [mdepth_no h]; simp
set_option maxRecDepth 100000 in
set_option maxHeartbeats 2000000 in
theorem specMulsAt_c (m : AM) (d : Int) (v : Value) (w : World) (h : AggR w (carith m) v) (wf : m.wf) :
    Calls Try.prog 13 #[v, .int .i64 d] w (RowI (mulsAt m d) w) := by
  have HV := Lib.hid h
  obtain ⟨u1, u2, rfl, h1, h2⟩ := carith_open h
  obtain ⟨A, c, rfl, hc, hm, hF⟩ := plst_rd (s := 3) (fun _ => rfl) (by omega) h1
  have HF := Lib.hid hF
  have HW := Lib.hid wf
  unfold maxLen at hm
  have hle := mdepth_le m
  clear h h1 h2 wf hF
  have B1 := Lib.hid (Blk.new w 29 #[.int .i64 m.p, .slice A m.st.length c, u2])
  have B2 := Lib.hid (B1.out.grow (gbA (gbR _ none) (.cells #[] 3)))
  have G2 := Lib.hid (gbA (gbA (gbR w none) (.cells #[.int .i64 m.p, .slice A m.st.length c, u2] 29)) (.cells #[] 3))
  have O2 : Hid (((w.alloc (.cells #[.int .i64 m.p, .slice A m.st.length c, u2] 29)).alloc (.cells #[] 3)).ownsRow (w.heap.size + 1) 3 1 (.slice (some ⟨w.heap.size + 1, 0, none⟩) 0 0) 0 []) := by
    have := World.ownsRow_made (e := 3) (size := 1) (base := w.heap.size + 1) (w.alloc (.cells #[.int .i64 m.p, .slice A m.st.length c, u2] 29)) #[] 0 B1.out.lt (by simp) rfl
    simpa [Hid] using this
  clear B1
  go_enter Try.func13, Try.ntmps13
  go_wp2_with fail
  refine (specMulDepth_c m _ _ (AggR.grow HV.out G2.out) HW.out).mono ?_
  rintro e w1 ⟨V, rfl, o1, g⟩
  have G3 := Lib.hid (gbT G2.out g)
  have B3 := Lib.hid (B2.out.grow g)
  have O3 := Lib.hid (own_grow O2.out g)
  obtain ⟨S, sc, rfl, hSl, hml⟩ := own_form o1
  have I3 := Lib.hid (show Ints w1 S (mdepth m).length (mdepth m) from Rd.ofOwn o1)
  have D3 : Hid (∀ g, (Value.slice (some ⟨w.heap.size + 1, 0, none⟩) 0 0).ownBlock = some g → ∀ a, S = some a → a.block ≠ g) := by
    intro g hg a ha e
    have := (hSl a ha).2.2.1
    simp [Value.ownBlock] at hg this
    omega
  have h60 := mdepth_few m
  obtain ⟨l, hl⟩ : ∃ l, mdepth m = l := ⟨_, rfl⟩
  have HL := Lib.hid hl
  rw [hl] at I3 hml h60 hle ⊢
  obtain ⟨n, hn⟩ : ∃ n, l.length = n := ⟨_, rfl⟩
  have HN := Lib.hid hn
  rw [hn] at I3 hml h60 hle ⊢
  clear g o1 hSl hl hn B2 O2 G2
  go_wp2_with fail
  have hml2 := hml
  unfold maxLen at hml2
  go_loopw [5, 7] (fun s i wr => ∃ k : Nat, k ≤ n ∧ i = .int .i64 k ∧ Hid (wr.ownsRow (w.heap.size + 1) 3 1 s (mulsTo m d k).length ((mulsTo m d k).map (Value.int .i64))) ∧ Hid (Blk wr w.heap.size 29 #[.int .i64 m.p, .slice A m.st.length c, u2]) ∧ Hid (w.grownBy wr none) ∧ Hid (Ints wr S n l) ∧ Hid (∀ g, s.ownBlock = some g → ∀ a, S = some a → a.block ≠ g)) (fun _ i _ => n - (intOf i).toNat)
  case atStart => exact ⟨0, Nat.zero_le _, rfl, O3.out, B3.out, G3.out, I3.out, D3.out⟩
  case round =>
    clear O3 B3 G3 I3 D3
    obtain ⟨k, hk, rfl, hown, hB, hG, hI, hD⟩ := hrel
    have c1 := hB.out.cell 1
    simp at c1
    by_cases hlt : k < n
    · obtain ⟨bb, ob, e1, hbb, r1⟩ := Ints.cell hI.out hlt
      subst e1
      obtain ⟨b, o, x, y, z, rfl, hb, hx, q0, q1, q2⟩ := steps_at (FL.grow HF.out hG.out) (Nat.lt_of_lt_of_le hlt hle)
      have i1 : (k : Int) < (n : Int) := by omega
      have i2 : (k : Int) < (m.st.length : Int) := by omega
      have hx' : stAt m k = (x, y, z) := by simp [stAt, List.getD_eq_getElem?_getD, hx]
      have HDS : Hid (mulsTo m d (k + 1) = mulsTo m d k ++ if x = 4 ∧ l.getD k 0 = d then [(k : Int)] else []) := by unfold Hid; rw [mulsTo, hx', HL.out]
      clear hx hx'
      generalize l.getD k 0 = e at *
      have hmk := mulsTo_len m d k
      generalize hM : mulsTo m d k = M at *
      generalize hM1 : mulsTo m d (k + 1) = M1 at *
      have HM1 := Lib.hid hM1
      clear hM hM1
      cases h4 : x == 4
      · have HDS' : Hid (M1 = M) := by unfold Hid; rw [HDS.out, if_neg (fun h => by simp [h.1] at h4)]; simp
        clear HDS
        go_wp2_with fail
        go_roundw
        case rel => exact ⟨k + 1, by omega, by go_num, by rw [HM1.out, HDS'.out]; exact hown.out, hB.out, hG.out, hI.out, hD.out⟩
        case measure => simp [intOf]; omega
      · cases h5 : e == d
        · have HDS' : Hid (M1 = M) := by unfold Hid; rw [HDS.out, if_neg (fun h => by simp [h.2] at h5)]; simp
          clear HDS
          go_wp2_with fail
          go_roundw
          case rel => exact ⟨k + 1, by omega, by go_num, by rw [HM1.out, HDS'.out]; exact hown.out, hB.out, hG.out, hI.out, hD.out⟩
          case measure => simp [intOf]; omega
        · have HDS' : Hid (M1 = M ++ [(k : Int)]) := by unfold Hid; rw [HDS.out, if_pos (by simp at h4 h5; exact ⟨h4, h5⟩)]
          clear HDS
          have hbs := hB.out.lt
          have hsb := bb
          go_wp2_with (at_builtin; refine wp_appendB _ wr.heap.size rfl el_int rfl (.tmp 32) (.tmp 34) rfl _ rfl (by simp [Value.oneCell']) (w.heap.size + 1) _ _ _ hown.out rfl rfl (by unfold maxLen; omega) (by omega) (by omega) ?_; intro v' w5 hown5 hgrow5 hnew5)
          have h1 : Hid (w5.ownsRow (w.heap.size + 1) 3 1 v' M1.length (M1.map (Value.int .i64))) := by unfold Hid; rw [HDS'.out]; simpa using hown5
          have h2 := Lib.hid (hB.out.grown hgrow5 (fun e => by have := (hown.out.lt _ e.symm).1; omega))
          have h3 := Lib.hid (gbN hG.out hgrow5 fun g e => by have := (hown.out.lt g e).1; omega)
          have h4' := Lib.hid (hI.out.grown hgrow5 (by rintro a ha e; exact hD.out _ e.symm a ha rfl))
          have h5' : Hid (∀ g, v'.ownBlock = some g → ∀ a, some (⟨bb, ob, none⟩ : Addr) = some a → a.block ≠ g) := by
            intro g hg a ha e
            rcases hnew5 g hg with h6 | h6
            · exact hD.out g h6.symm a ha e
            · injection ha with ha; subst ha; simp at e; omega
          clear hown5 hgrow5 hnew5 hown hB hG hI hD
          go_wp2_with fail
          go_roundw
          case rel => exact ⟨k + 1, by omega, by go_num, by rw [HM1.out]; exact h1.out, h2.out, h3.out, h4'.out, h5'.out⟩
          case measure => simp [intOf]; omega
    · have hkn : k = n := by omega
      subst hkn
      go_wp2_with fail
      go_ret
      have hR : mulsAt m d = mulsTo m d k := by unfold mulsAt; rw [HL.out, HN.out]
      exact ⟨_, rfl, by rw [hR]; exact own_base hown.out (by omega), hG.out⟩
set_option maxRecDepth 100000 in
set_option maxHeartbeats 2000000 in
theorem implMulsAt_yes (m : AM) (d : Int) (v : Value) (w : World) (h : AggR w (carith m) v) (wf : m.wf) (hok : AOk m) :
    Calls Try.prog 64 #[v, .int .i64 d] w (RowI (mulsAt m d) w) := by
  have HV := Lib.hid h
  obtain ⟨u1, u2, rfl, h1, h2⟩ := carith_open h
  obtain ⟨A, c, rfl, hc, hm, hF⟩ := plst_rd (s := 3) (fun _ => rfl) (by omega) h1
  have HF := Lib.hid hF
  have HW := Lib.hid wf
  have HOK := Lib.hid hok
  unfold maxLen at hm
  have hle := mdepth_le m
  clear h h1 h2 wf hF hok
  have B1 := Lib.hid (Blk.new w 29 #[.int .i64 m.p, .slice A m.st.length c, u2])
  have G1 := Lib.hid (gbA (gbR w none) (.cells #[.int .i64 m.p, .slice A m.st.length c, u2] 29))
  go_enter Try.func64, Try.ntmps64
  go_wp2_with fail
  refine (implArithOk_c m _ _ (AggR.grow HV.out G1.out) HW.out).mono ?_
  rintro e w0 ⟨rfl, g⟩
  rw [arithB_yes HOK.out]
  have B1' := Lib.hid (B1.out.grow g)
  have G1' := Lib.hid (gbT G1.out g)
  have hb0 := B1'.out.lt
  have k0 := B1'.out.cell 0
  have k1 := B1'.out.cell 1
  have k2 := B1'.out.cell 2
  simp at k0 k1 k2
  have k0' := kA k0 (.cells #[] 3)
  have k1' := kA k1 (.cells #[] 3)
  have k2' := kA k2 (.cells #[] 3)
  have B2 := Lib.hid (B1'.out.grow (gbA (gbR _ none) (.cells #[] 3)))
  have G2 := Lib.hid (gbA G1'.out (.cells #[] 3))
  have O2 := Lib.hid (World.ownsRow_made (e := 3) (size := 1) (base := w.heap.size + 1) w0 #[] 0 hb0 (by simp) rfl)
  clear B1 G1 B1' G1' g
  go_wp2_with fail
  clear k0 k1 k2 k0' k1' k2'
  refine (implMulDepth_c m _ _ (AggR.grow HV.out G2.out) HW.out).mono ?_
  rintro e w1 ⟨V, rfl, o1, g⟩
  have G3 := Lib.hid (gbT G2.out g)
  have B3 := Lib.hid (B2.out.grow g)
  have O3 := Lib.hid (own_grow O2.out g)
  obtain ⟨S, sc, rfl, hSl, hml⟩ := own_form o1
  have I3 := Lib.hid (show Ints w1 S (mdepth m).length (mdepth m) from Rd.ofOwn o1)
  have D3 : Hid (∀ g, (Value.slice (some ⟨w0.heap.size, 0, none⟩) 0 0).ownBlock = some g → ∀ a, S = some a → a.block ≠ g) := by
    intro g hg a ha e
    have := (hSl a ha).2.2.1
    simp [Value.ownBlock] at hg this
    omega
  have h60 := mdepth_few m
  obtain ⟨l, hl⟩ : ∃ l, mdepth m = l := ⟨_, rfl⟩
  have HL := Lib.hid hl
  rw [hl] at I3 hml h60 hle ⊢
  obtain ⟨n, hn⟩ : ∃ n, l.length = n := ⟨_, rfl⟩
  have HN := Lib.hid hn
  rw [hn] at I3 hml h60 hle ⊢
  clear g o1 hSl hl hn B2 O2 G2
  go_wp2_with fail
  have hml2 := hml
  unfold maxLen at hml2
  go_loopw [5, 15] (fun s i wr => ∃ k : Nat, k ≤ n ∧ i = .int .i64 k ∧ Hid (wr.ownsRow (w.heap.size + 1) 3 1 s (mulsTo m d k).length ((mulsTo m d k).map (Value.int .i64))) ∧ Hid (Blk wr w.heap.size 29 #[.int .i64 m.p, .slice A m.st.length c, u2]) ∧ Hid (w.grownBy wr none) ∧ Hid (Ints wr S n l) ∧ Hid (∀ g, s.ownBlock = some g → ∀ a, S = some a → a.block ≠ g)) (fun _ i _ => n - (intOf i).toNat)
  case atStart => exact ⟨0, Nat.zero_le _, rfl, O3.out, B3.out, G3.out, I3.out, D3.out⟩
  case round =>
    clear O3 B3 G3 I3 D3
    obtain ⟨k, hk, rfl, hown, hB, hG, hI, hD⟩ := hrel
    have c1 := hB.out.cell 1
    simp at c1
    by_cases hlt : k < n
    · obtain ⟨bb, ob, e1, hbb, r1⟩ := Ints.cell hI.out hlt
      subst e1
      obtain ⟨b, o, x, y, z, rfl, hb, hx, q0, q1, q2⟩ := steps_at (FL.grow HF.out hG.out) (Nat.lt_of_lt_of_le hlt hle)
      have i1 : (k : Int) < (n : Int) := by omega
      have i2 : (k : Int) < (m.st.length : Int) := by omega
      have hx' : stAt m k = (x, y, z) := by simp [stAt, List.getD_eq_getElem?_getD, hx]
      have HDS : Hid (mulsTo m d (k + 1) = mulsTo m d k ++ if x = 4 ∧ l.getD k 0 = d then [(k : Int)] else []) := by unfold Hid; rw [mulsTo, hx', HL.out]
      clear hx hx'
      generalize l.getD k 0 = e at *
      have hmk := mulsTo_len m d k
      generalize hM : mulsTo m d k = M at *
      generalize hM1 : mulsTo m d (k + 1) = M1 at *
      have HM1 := Lib.hid hM1
      clear hM hM1
      cases h4 : x == 4
      · have HDS' : Hid (M1 = M) := by unfold Hid; rw [HDS.out, if_neg (fun h => by simp [h.1] at h4)]; simp
        clear HDS
        go_wp2_with fail
        go_roundw
        case rel => exact ⟨k + 1, by omega, by go_num, by rw [HM1.out, HDS'.out]; exact hown.out, hB.out, hG.out, hI.out, hD.out⟩
        case measure => simp [intOf]; omega
      · cases h5 : e == d
        · have HDS' : Hid (M1 = M) := by unfold Hid; rw [HDS.out, if_neg (fun h => by simp [h.2] at h5)]; simp
          clear HDS
          go_wp2_with fail
          go_roundw
          case rel => exact ⟨k + 1, by omega, by go_num, by rw [HM1.out, HDS'.out]; exact hown.out, hB.out, hG.out, hI.out, hD.out⟩
          case measure => simp [intOf]; omega
        · have HDS' : Hid (M1 = M ++ [(k : Int)]) := by unfold Hid; rw [HDS.out, if_pos (by simp at h4 h5; exact ⟨h4, h5⟩)]
          clear HDS
          have hbs := hB.out.lt
          have hsb := bb
          go_wp2_with (at_builtin; refine wp_appendB _ wr.heap.size rfl el_int rfl (.tmp 32) (.tmp 34) rfl _ rfl (by simp [Value.oneCell']) (w.heap.size + 1) _ _ _ hown.out rfl rfl (by unfold maxLen; omega) (by omega) (by omega) ?_; intro v' w5 hown5 hgrow5 hnew5)
          have h1 : Hid (w5.ownsRow (w.heap.size + 1) 3 1 v' M1.length (M1.map (Value.int .i64))) := by unfold Hid; rw [HDS'.out]; simpa using hown5
          have h2 := Lib.hid (hB.out.grown hgrow5 (fun e => by have := (hown.out.lt _ e.symm).1; omega))
          have h3 := Lib.hid (gbN hG.out hgrow5 fun g e => by have := (hown.out.lt g e).1; omega)
          have h4' := Lib.hid (hI.out.grown hgrow5 (by rintro a ha e; exact hD.out _ e.symm a ha rfl))
          have h5' : Hid (∀ g, v'.ownBlock = some g → ∀ a, some (⟨bb, ob, none⟩ : Addr) = some a → a.block ≠ g) := by
            intro g hg a ha e
            rcases hnew5 g hg with h6 | h6
            · exact hD.out g h6.symm a ha e
            · injection ha with ha; subst ha; simp at e; omega
          clear hown5 hgrow5 hnew5 hown hB hG hI hD
          go_wp2_with fail
          go_roundw
          case rel => exact ⟨k + 1, by omega, by go_num, by rw [HM1.out]; exact h1.out, h2.out, h3.out, h4'.out, h5'.out⟩
          case measure => simp [intOf]; omega
    · have hkn : k = n := by omega
      subst hkn
      go_wp2_with fail
      go_ret
      have hR : mulsAt m d = mulsTo m d k := by unfold mulsAt; rw [HL.out, HN.out]
      exact ⟨_, rfl, by rw [hR]; exact own_base hown.out (by omega), hG.out⟩
theorem implMulsAt_no (m : AM) (d : Int) (v : Value) (w : World) (h : AggR w (carith m) v) (wf : m.wf) (hok : ¬ AOk m) :
    Calls Try.prog 64 #[v, .int .i64 d] w (RowI (mulsAt m d) w) := by
  have HV := Lib.hid h
  obtain ⟨u1, u2, rfl, h1, h2⟩ := carith_open h
  have HOK := Lib.hid hok
  have HW := Lib.hid wf
  clear h h1 h2 wf hok
  go_enter Try.func64, Try.ntmps64
  go_wp2_with fail
  refine (implArithOk_c m _ _ (AggR.grow HV.out (gbA (gbR w none) _)) HW.out).mono ?_
  rintro e w1 ⟨rfl, g⟩
  rw [arithB_no HOK.out]
  have G := Lib.hid (gbT (gbA (gbR w none) _) g)
  clear g
  go_wp2_with fail
  go_ret
  have hR : mulsAt m d = [] := by unfold mulsAt; rw [mdepth_no HOK.out]; rfl
  exact ⟨_, rfl, by rw [hR]; exact World.ownsRow_nil _ _ _ _, G.out⟩
theorem implMulsAt_c (m : AM) (d : Int) (v : Value) (w : World) (h : AggR w (carith m) v) (wf : m.wf) :
    Calls Try.prog 64 #[v, .int .i64 d] w (RowI (mulsAt m d) w) := by
  by_cases hok : AOk m
  · exact implMulsAt_yes m d v w h wf hok
  · exact implMulsAt_no m d v w h wf hok
end Go.Proofs.Ythaadgdeadbhkaa
