/-
  OramValue: reference and program.
-/
import Derived.Test.YthncoohkdmjcaaaMgFnMemory21
namespace Go.Proofs.Ythncoohkdmjcaaa
open Go.RowKit
set_option linter.unusedVariables false
set_option linter.unusedSimpArgs false
noncomputable def valO (m : OM) (id : Int) : Int := if oramB m = true ∧ 0 ≤ id ∧ id ≤ 11 then oval m id else -1
theorem valO_no {m : OM} {id : Int} (h : ¬ (oramB m = true ∧ 0 ≤ id ∧ id ≤ 11)) : valO m id = -1 := if_neg h
theorem valO_yes {m : OM} {id : Int} (h : oramB m = true) (h0 : 0 ≤ id) (h1 : id ≤ 11) : valO m id = oval m id := if_pos ⟨h, h0, h1⟩
def NoId (m : OM) (id : Int) (k j : Nat) : Prop := ∀ b ∈ preO m k j, b.1 ≠ id
theorem NoId.zero (m : OM) (id : Int) : NoId m id 0 0 := by intro b hb; rw [preO_zero] at hb; cases hb
theorem NoId.next {m : OM} {id : Int} {k j : Nat} {l : Bks} {b : Int × Int} (h : NoId m id k j) (hl : (lsO m)[k]? = some l) (hb : l[j]? = some b) (hne : b.1 ≠ id) : NoId m id k (j + 1) := by
  intro x hx
  rw [preO_next hl hb] at hx
  rcases List.mem_append.1 hx with hx | hx
  · exact h x hx
  · simp at hx; subst hx; exact hne
theorem NoId.line {m : OM} {id : Int} {k : Nat} {l : Bks} (h : NoId m id k l.length) (hl : (lsO m)[k]? = some l) : NoId m id (k + 1) 0 := by unfold NoId; rw [preO_line hl]; exact h
theorem NoId.all_ {m : OM} {id : Int} {k : Nat} {l : Bks} (h : NoId m id k 0) (hl : (lsO m)[k]? = some l) (hx : ∀ (i : Nat) (b : Int × Int), l[i]? = some b → b.1 ≠ id) : NoId m id (k + 1) 0 := by
  refine NoId.line ?_ hl
  have : ∀ j, j ≤ l.length → NoId m id k j := by
    intro j
    induction j with
    | zero => intro _; exact h
    | succ j ih => intro hj; exact (ih (by omega)).next hl (List.getElem?_eq_getElem (show j < l.length by omega)) (hx j _ (List.getElem?_eq_getElem (show j < l.length by omega)))
  exact this _ (Nat.le_refl _)
theorem NoId.upto {m : OM} {id : Int} {k : Nat} {l : Bks} (h : NoId m id k 0) (hl : (lsO m)[k]? = some l) {j : Nat} (hj : j ≤ l.length) (hx : ∀ (i : Nat) (b : Int × Int), i < j → l[i]? = some b → b.1 ≠ id) : NoId m id k j := by
  induction j with
  | zero => exact h
  | succ j ih => exact (ih (by omega) fun i b hi => hx i b (by omega)).next hl (List.getElem?_eq_getElem (show j < l.length by omega)) (hx j _ (by omega) (List.getElem?_eq_getElem (show j < l.length by omega)))
theorem oval_at {m : OM} {id : Int} {k j : Nat} {l : Bks} {b : Int × Int} (hl : (lsO m)[k]? = some l) (hb : l[j]? = some b) (hno : NoId m id k j) (e : b.1 = id) : oval m id = b.2 := by
  obtain ⟨r, hr⟩ := preO_split hl hb
  unfold oval bval
  have h1 : (preO m k j).find? (·.1 == id) = none := List.find?_eq_none.2 fun x hx => by simpa using hno x hx
  rw [hr, List.find?_append, h1]
  simp [e]
theorem oval_none {m : OM} {id : Int} (h : NoId m id (m.bk.length + 1) 0) : oval m id = 0 := by
  unfold NoId at h
  rw [preO_all] at h
  exact bval_none h
def findI (x : Bks) (id : Int) : Int := match x.findIdx? (·.1 == id) with | some j => (j : Int) | none => -1
theorem findI_yes {x : Bks} {id : Int} {j : Nat} {b : Int × Int} (hb : x[j]? = some b) (e : b.1 = id) (hno : ∀ (i : Nat) (b' : Int × Int), i < j → x[i]? = some b' → b'.1 ≠ id) : findI x id = j := by
  have hj := (List.getElem?_eq_some_iff.1 hb)
  have : x.findIdx? (·.1 == id) = some j := by
    rw [List.findIdx?_eq_some_iff_getElem]
    obtain ⟨hj, hx⟩ := hj
    exact ⟨hj, by rw [hx]; simp [e], fun i hi => by have := hno i _ hi (List.getElem?_eq_getElem (show i < x.length by omega)); simpa using this⟩
  simp [findI, this]
theorem findI_no {x : Bks} {id : Int} (hno : ∀ (i : Nat) (b' : Int × Int), x[i]? = some b' → b'.1 ≠ id) : findI x id = -1 := by
  have : x.findIdx? (·.1 == id) = none := by
    rw [List.findIdx?_eq_none_iff]
    intro b hb
    obtain ⟨i, hi⟩ := List.mem_iff_getElem?.1 hb
    simpa using hno i b hi
  simp [findI, this]
theorem findI_cases (x : Bks) (id : Int) : (findI x id = -1 ∧ ∀ (i : Nat) (b' : Int × Int), x[i]? = some b' → b'.1 ≠ id) ∨ ∃ (j : Nat) (b : Int × Int), findI x id = j ∧ x[j]? = some b ∧ b.1 = id ∧ ∀ (i : Nat) (b' : Int × Int), i < j → x[i]? = some b' → b'.1 ≠ id := by
  cases h : x.findIdx? (·.1 == id) with
  | none =>
    refine .inl ⟨by simp [findI, h], fun i b' hb => ?_⟩
    rw [List.findIdx?_eq_none_iff] at h
    simpa using h b' (List.mem_of_getElem? hb)
  | some j =>
    rw [List.findIdx?_eq_some_iff_getElem] at h
    obtain ⟨hj, h1, h2⟩ := h
    refine .inr ⟨j, x[j], findI_yes (List.getElem?_eq_getElem hj) (by simpa using h1) fun i b' hi hb => ?_, List.getElem?_eq_getElem hj, by simpa using h1, fun i b' hi hb => ?_⟩
    all_goals
      have := h2 i hi
      rw [List.getElem?_eq_getElem (show i < x.length by omega)] at hb
      injection hb with hb
      subst hb
      simpa using this
set_option maxHeartbeats 400000 in
theorem specl31Find_c (A : Option Addr) (n c : Nat) (x : Bks) (id : Int) (w : World) (hx : FL c2 2 w A n x) (hn : n ≤ 4611686018427387903) :
    Calls Try.prog 73 #[.slice A n c, .int .i64 id] w fun e w' => e = .returned (.int .i64 (findI x id)) ∧ w = w' := by
  have LX := Lib.hid hx.len
  go_enter Try.func73, Try.ntmps73
  go_wp2_with fail
  go_loop [5] (fun i => ∃ k : Nat, k ≤ n ∧ i = .int .i64 k ∧ Hid (∀ (i : Nat) (b' : Int × Int), i < k → x[i]? = some b' → b'.1 ≠ id)) (fun i => n - (intOf i).toNat)
  case atStart => exact ⟨0, Nat.zero_le _, rfl, fun i b' hi => by omega⟩
  case round =>
    obtain ⟨k, hk, rfl, hall⟩ := hrel
    by_cases hlt : k < n
    · obtain ⟨b, o, y, rfl, hb, hxk, hc⟩ := hx.cell c2_len hlt (by omega)
      obtain ⟨p, q⟩ := y
      have q0 := hc 0 (by omega)
      simp only [c2, Nat.add_zero, ← Nat.add_assoc, List.getElem?_cons_zero, List.getElem?_cons_succ] at q0
      have HXK := Lib.hid hxk
      have i1 : (k : Int) < (n : Int) := by omega
      clear hc hxk
      by_cases e : p = id
      · have HF := Lib.hid (findI_yes HXK.out e hall.out)
        have hb' : (p == id) = true := by simpa using e
        clear e
        go_wp2_with fail
        go_ret
        exact ⟨retI HF.out.symm, rfl⟩
      · have HE : Hid (∀ (i : Nat) (b' : Int × Int), i < k + 1 → x[i]? = some b' → b'.1 ≠ id) := fun i b' hi hb' => by
          by_cases ei : i = k
          · subst ei; have := HXK.out; rw [this] at hb'; injection hb' with hb'; subst hb'; exact e
          · exact hall.out i b' (by omega) hb'
        have hb' : (p == id) = false := by simpa using e
        clear e
        go_wp2_with fail
        go_round
        case rel => exact ⟨k + 1, by omega, by go_num, HE.out⟩
        case measure => simp [intOf]; omega
    · have hkn : k = n := by omega
      subst hkn
      have HF : Hid (findI x id = -1) := findI_no fun i b' hb' => hall.out i b' (by have := (List.getElem?_eq_some_iff.1 hb').1; have := LX.out; omega) hb'
      go_wp2_with fail
      go_ret
      exact ⟨retI HF.out.symm, rfl⟩
structure VInv (m : OM) (w : World) (B : Nat) (cs : Array Value) (wr : World) : Prop where
  blk : Blk wr B 36 cs
  g : w.grownBy wr none
theorem VInv.grow {m : OM} {w wr w' : World} {B : Nat} {cs : Array Value} (h : VInv m w B cs wr) (hg : wr.grownBy w' none) : VInv m w B cs w' := ⟨h.blk.grow hg, gbT h.g hg⟩
set_option maxHeartbeats 1000000 in
/-- Not a right memory, or no word's number. -/
theorem specOramValue_no (m : OM) (v : Value) (id : Int) (w : World) (h : AggR w (coram m) v) (hz : m.sz ≤ 2097152) (hno : ¬ (oramB m = true ∧ 0 ≤ id ∧ id ≤ 11)) :
    Calls Try.prog 33 #[v, .int .i64 id] w fun e w' => e = .returned (.int .i64 (valO m id)) ∧ w.grownBy w' none := by
  have HV := Lib.hid (valO_no hno)
  obtain ⟨u0, u1, u2, rfl, h0, h1, h2⟩ := coram_open h
  have HA := Lib.hid h
  clear h h0 h1 h2
  cases hb : oramB m with
  | false =>
    have HB := Lib.hid hb
    clear hb hno
    go_enter Try.func33, Try.ntmps33
    go_wp2_with fail
    refine (specOramOk_c m _ _ (AggR.grow HA.out (gbA (gbR w none) _)) hz).mono ?_
    rintro e w1 ⟨rfl, g1⟩
    rw [HB.out]
    have G1 := Lib.hid (gbT (gbA (gbR w none) _) g1)
    clear g1
    go_wp2_with fail
    go_ret
    exact ⟨retI HV.out.symm, G1.out⟩
  | true =>
    have HB := Lib.hid hb
    have hx : ¬ (0 ≤ id ∧ id ≤ 11) := fun h => hno ⟨hb, h⟩
    clear hb hno
    by_cases h0 : 0 ≤ id
    · have d0 : decide (0 ≤ id) = true := by simp; omega
      have d1 : decide (id ≤ 11) = false := by simp; omega
      clear hx
      go_enter Try.func33, Try.ntmps33
      go_wp2_with fail
      refine (specOramOk_c m _ _ (AggR.grow HA.out (gbA (gbR w none) _)) hz).mono ?_
      rintro e w1 ⟨rfl, g1⟩
      rw [HB.out]
      have G1 := Lib.hid (gbT (gbA (gbR w none) _) g1)
      clear g1
      go_wp2_with go_in
      go_ret
      exact ⟨retI HV.out.symm, G1.out⟩
    · have d0 : decide (0 ≤ id) = false := by simp; omega
      clear hx
      go_enter Try.func33, Try.ntmps33
      go_wp2_with fail
      refine (specOramOk_c m _ _ (AggR.grow HA.out (gbA (gbR w none) _)) hz).mono ?_
      rintro e w1 ⟨rfl, g1⟩
      rw [HB.out]
      have G1 := Lib.hid (gbT (gbA (gbR w none) _) g1)
      clear g1
      go_wp2_with go_in
      go_ret
      exact ⟨retI HV.out.symm, G1.out⟩
set_option maxHeartbeats 1000000 in
/-- Not a right memory, or no word's number. -/
theorem implOramValue_no (m : OM) (v : Value) (id : Int) (w : World) (h : AggR w (coram m) v) (hz : m.sz ≤ 2097152) (hno : ¬ (oramB m = true ∧ 0 ≤ id ∧ id ≤ 11)) :
    Calls Try.prog 34 #[v, .int .i64 id] w fun e w' => e = .returned (.int .i64 (valO m id)) ∧ w.grownBy w' none := by
  have HV := Lib.hid (valO_no hno)
  obtain ⟨u0, u1, u2, rfl, h0, h1, h2⟩ := coram_open h
  have HA := Lib.hid h
  clear h h0 h1 h2
  cases hb : oramB m with
  | false =>
    have HB := Lib.hid hb
    clear hb hno
    go_enter Try.func34, Try.ntmps34
    go_wp2_with fail
    refine (implOramOk_c m _ _ (AggR.grow HA.out (gbA (gbR w none) _)) hz).mono ?_
    rintro e w1 ⟨rfl, g1⟩
    rw [HB.out]
    have G1 := Lib.hid (gbT (gbA (gbR w none) _) g1)
    clear g1
    go_wp2_with fail
    go_ret
    exact ⟨retI HV.out.symm, G1.out⟩
  | true =>
    have HB := Lib.hid hb
    have hx : ¬ (0 ≤ id ∧ id ≤ 11) := fun h => hno ⟨hb, h⟩
    clear hb hno
    by_cases h0 : 0 ≤ id
    · have d0 : decide (0 ≤ id) = true := by simp; omega
      have d1 : decide (id ≤ 11) = false := by simp; omega
      clear hx
      go_enter Try.func34, Try.ntmps34
      go_wp2_with fail
      refine (implOramOk_c m _ _ (AggR.grow HA.out (gbA (gbR w none) _)) hz).mono ?_
      rintro e w1 ⟨rfl, g1⟩
      rw [HB.out]
      have G1 := Lib.hid (gbT (gbA (gbR w none) _) g1)
      clear g1
      go_wp2_with go_in
      go_ret
      exact ⟨retI HV.out.symm, G1.out⟩
    · have d0 : decide (0 ≤ id) = false := by simp; omega
      clear hx
      go_enter Try.func34, Try.ntmps34
      go_wp2_with fail
      refine (implOramOk_c m _ _ (AggR.grow HA.out (gbA (gbR w none) _)) hz).mono ?_
      rintro e w1 ⟨rfl, g1⟩
      rw [HB.out]
      have G1 := Lib.hid (gbT (gbA (gbR w none) _) g1)
      clear g1
      go_wp2_with go_in
      go_ret
      exact ⟨retI HV.out.symm, G1.out⟩
set_option maxRecDepth 100000 in
set_option maxHeartbeats 2000000 in
theorem implOramValue_yes (m : OM) (v : Value) (id : Int) (w : World) (h : AggR w (coram m) v) (hz : m.sz ≤ 2097152) (hok : oramB m = true) (id0 : 0 ≤ id) (id1 : id ≤ 11) :
    Calls Try.prog 34 #[v, .int .i64 id] w fun e w' => e = .returned (.int .i64 (valO m id)) ∧ w.grownBy w' none := by
  have HB := Lib.hid hok
  have HVO := Lib.hid (valO_yes hok id0 id1)
  have hokk := oramB_is hok
  obtain ⟨u0, u1, u2, rfl, h0, h1, h2⟩ := coram_open h
  obtain ⟨A0, c0, vs, rfl, hc0, hm0, hv0, hr0⟩ := lst_rd (s := 1) (fun _ => rfl) (by omega) h0
  obtain ⟨A1, c1, rfl, hc1, hm1, _⟩ := plst_rd (s := 2) (fun _ => rfl) (by omega) h1
  obtain ⟨n1, hn1⟩ : ∃ n, m.st.length = n := ⟨_, rfl⟩
  have H1 : Hid (∀ u ∈ vs, u.oneCell' = true) := hv0.one
  have HV := Lib.hid hv0
  have HS := Lib.hid h1
  have HA := Lib.hid h
  have HZ := Lib.hid hz
  have HN15 := Lib.hid hokk.nb
  rw [hn1] at hc1 HS HA ⊢
  rw [hokk.nb] at hc0 hr0 HA ⊢
  have R0' := Lib.hid hr0
  have d0 : decide (0 ≤ id) = true := by simp; omega
  have d1 : decide (id ≤ 11) = true := by simp; omega
  have B1 := Lib.hid (Blk.new w 36 #[.slice A0 15 c0, .slice A1 n1 c1, u2])
  have G1 := Lib.hid (gbA (gbR w none) (.cells #[.slice A0 15 c0, .slice A1 n1 c1, u2] 36))
  clear h h0 h1 h2 hz hv0 hr0 hok hokk id0 id1 hn1
  go_enter Try.func34, Try.ntmps34
  go_wp2_with fail
  refine (implOramOk_c m _ _ (AggR.grow HA.out G1.out) HZ.out).mono ?_
  rintro e w1 ⟨rfl, g1⟩
  rw [HB.out]
  have B2 := Lib.hid (B1.out.grow g1)
  have G2 := Lib.hid (gbT G1.out g1)
  clear B1 G1 g1
  obtain ⟨B, hB⟩ : ∃ B, w.heap.size = B := ⟨_, rfl⟩
  rw [hB] at B2 ⊢
  have E0 : Hid (w1.cell? ⟨B, 0, none⟩ = some (.slice A0 15 c0)) := B2.out.cell 0
  have E1 : Hid (w1.cell? ⟨B, 1, none⟩ = some (.slice A1 n1 c1)) := B2.out.cell 1
  have R0 := Lib.hid (Rd.grow R0'.out G2.out)
  go_wp2_with go_in
  refine region_reg4 [onT 17 (rowF w1.heap.size 34 0 (· = 0) []), onT 18 (isV (.pointer (some ⟨B, 0, none⟩))), onT 19 (isV (.slice A0 15 c0)), onT 20 (rowF w1.heap.size 34 15 (fun c => 15 ≤ c ∧ c ≤ maxLen) vs), onT 21 (isV (.pointer (some ⟨B, 1, none⟩))), onT 22 (isV (.slice A1 n1 c1)), onT 23 (rowF w1.heap.size 34 1 (· = 1) [.slice A1 n1 c1]), onT 24 (rowF w1.heap.size 34 16 (fun c => 16 ≤ c ∧ c ≤ maxLen) (vs ++ [.slice A1 n1 c1])), onT 25 (isV (.int .i64 16)), onT 26 (isV (.int .i64 0))] [] (by kernel_rfl) (by kernel_rfl) (by kernel_rfl) (by simp [stablesF, stableF_on, isV_st, rowF_st]) ?_ ?_
  · simp only [hops4, and_true]
    refine ⟨?_, ?_, ?_, ?_, ?_, ?_, ?_, ?_, ?_, ?_⟩
    rotate_left 3
    · intro f w4 hG _ hd
      simp [depsF, bindE, List.filter_cons, bd_data, bd_chain, bd_guard, bd_phase, bd_text, bd_gc, fAt, onT_at, isV] at hd
      obtain ⟨⟨g0, cc, e0, hcc, o0⟩, h21⟩ := hd
      subst hcc
      rw [e0] at o0
      have hg4 := chgNil hG
      have hs4 := hg4.size
      try simp at hs4
      have R4 := Rd.grow (Rd.grow R0.out (gbD (gbR _ none))) hg4
      simp [puts, dsts, Act.put, e0, h21]
      refine wp_appendKR w4 elBlockS rfl (.tmp 17) (.tmp 19) rfl _ _ 0 [] o0 rfl A0 15 c0 vs rfl R4 (by omega) H1.out (by unfold maxLen; omega) (by omega) hs4 ?_
      intro v' w5 o5 g5 k5
      obtain ⟨gn, cn, rfl, hcn, hbn, hmn⟩ := own_form2 o5 (by decide)
      refine ⟨_, rfl, ⟨gn, cn, rfl, ⟨hcn, hmn⟩, by simpa [upd_some, fAt, onT] using o5⟩, Or.inr ⟨Chg.of g5 fun x hx => by have := (o0.lt x hx).1; first | exact this | exact .inl this, ?_⟩⟩
      simp [keeps, onT_at, isV]
      exact ⟨fun _ => ⟨g0, 0, e0, rfl, by rw [e0]; exact k5⟩, fun hk => rowF_keep hk o0 (by omega) g5, fun hk => rowF_keep hk o0 (by omega) g5⟩
    rotate_left 3
    · intro f w4 hG _ hd
      simp [depsF, bindE, List.filter_cons, bd_data, bd_chain, bd_guard, bd_phase, bd_text, bd_gc, fAt, onT_at, isV] at hd
      obtain ⟨⟨g0, cc, e0, hcc, o0⟩, ⟨g1, cd, e1, hcd, o1⟩, _⟩ := hd
      subst hcd
      rw [e0] at o0
      rw [e1] at o1
      have hg4 := chgNil hG
      have hs4 := hg4.size
      try simp at hs4
      have R4 := Rd.ofOwn o1
      simp [puts, dsts, Act.put, e0, e1]
      refine wp_appendKR w4 elBlockS rfl (.tmp 20) (.tmp 23) rfl _ _ 15 vs o0 rfl (some ⟨g1, 0, none⟩) 1 1 _ rfl R4 (by omega) (by simp [Value.oneCell']) (by unfold maxLen; omega) (by omega) hs4 ?_
      intro v' w5 o5 g5 k5
      obtain ⟨gn, cn, rfl, hcn, hbn, hmn⟩ := own_form2 o5 (by decide)
      refine ⟨_, rfl, ⟨gn, cn, rfl, ⟨hcn, hmn⟩, by simpa [upd_some, fAt, onT] using o5⟩, Or.inr ⟨Chg.of g5 fun x hx => by have := (o0.lt x hx).1; first | exact this | exact .inl this, ?_⟩⟩
      simp [keeps, onT_at, isV]
      exact ⟨fun hk => rowF_keep hk o0 (by omega) g5, fun _ => ⟨g0, cc, e0, hcc, by rw [e0]; exact k5⟩, fun hk => rowF_keep hk o0 (by omega) g5⟩
    all_goals
      intro f w4 hG _ hd
      have hg4 := chgNil hG
      have hs4 := hg4.size
      try simp at hs4
      have k0 := gbk hg4 (kD E0.out)
      have k1 := gbk hg4 (kD E1.out)
      clear hG
      simp [depsF, bindE, List.filter_cons, bd_data, bd_chain, bd_guard, bd_phase, bd_text, bd_gc, fAt, onT_at, isV] at hd
      try obtain ⟨gq, cq, hd, _, oq⟩ := hd
      first | simp [puts, dsts, Act.put, hd] | simp [puts, dsts, Act.put]
      go_wp2_with fail
      first
        | exact ⟨_, rfl, by simp [fAt, onT_at, upd_some, isV], Or.inl (gbR _ _)⟩
        | exact ⟨_, rfl, ⟨_, 0, rfl, rfl, World.ownsRow_made w4 #[] 0 hs4 (by simp) rfl⟩, Or.inl (gbA (gbR _ _) _)⟩
        | exact ⟨_, rfl, ⟨_, 1, rfl, rfl, own_lit1 hs4 _ _⟩, Or.inl (gbA (gbR _ _) _)⟩
  intro f w2 hG hd
  have hgw2 := Lib.hid (gbT (gbD (gbR w1 none)) (chgNil hG))
  simp [knowsF, onT_at, isV] at hd
  obtain ⟨⟨g0_, c0_, q0, e0_, _⟩, q1, q2, ⟨g3_, c3_, q3, _, _⟩, q4, q5, ⟨g6_, c6_, q6, e6_, _⟩, ⟨gR, cR, q7, hcR, oR⟩, q8, q9⟩ := hd
  subst e0_
  subst e6_
  rw [q7] at oR
  have hR := Lib.hid oR
  simp only [puts, dsts, Act.put, q0, q1, q2, q3, q4, q5, q6, q7, q8, q9, List.filterMap_cons, List.filterMap_nil, List.setIfInBounds_toArray, List.set_cons_zero, List.set_cons_succ]
  clear q0 q1 q2 q3 q4 q5 q6 q7 q8 q9 oR hG
  have V0 : Hid (VInv m w B #[.slice A0 15 c0, .slice A1 n1 c1, u2] w2) := ⟨B2.out.grow hgw2.out, gbT G2.out hgw2.out⟩
  clear E0 E1 R0 hgw2 B2 G2
  go_wp2_with fail
  go_loopw [26] (fun i wr => ∃ k : Nat, k ≤ 16 ∧ i = .int .i64 k ∧ Hid (NoId m id k 0) ∧ Hid (VInv m w B #[.slice A0 15 c0, .slice A1 n1 c1, u2] wr) ∧ Hid (w2.grownBy wr none)) (fun i _ => 16 - (intOf i).toNat)
  case atStart => exact ⟨0, by omega, rfl, NoId.zero m id, V0.out, gbR _ _⟩
  case round =>
    obtain ⟨k, hk, rfl, hno, hV, hG2⟩ := hrel
    by_cases hlt : k < 16
    · obtain ⟨x, Ax, dx, hx, hcell, hdx, hmx, hfl⟩ := row16_at (m := m) HV.out HS.out (by rw [HN15.out]) (own_grow hR.out hG2.out) hlt
      have hlen := lsO_get_len hx
      have HX := Lib.hid hx
      have HFL := Lib.hid hfl
      have HLEN : x.length ≤ 2097152 := Nat.le_trans hlen HZ.out
      obtain ⟨n, hnx⟩ : ∃ n, x.length = n := ⟨_, rfl⟩
      rw [hnx] at hcell hdx HFL HLEN
      have HNX := Lib.hid hnx
      have i1 : (k : Int) < 16 := by omega
      clear hx hfl hlen hnx
      go_wp2_with fail
      obtain ⟨wo, rfl⟩ : ∃ wo : World, wo = wr := ⟨_, rfl⟩
      go_loopw [32] (fun i wi => ∃ j : Nat, j ≤ n ∧ i = .int .i64 j ∧ Hid (NoId m id k j) ∧ Hid (VInv m w B #[.slice A0 15 c0, .slice A1 n1 c1, u2] wi) ∧ Hid (wo.grownBy wi none)) (fun i _ => n - (intOf i).toNat)
      case atStart => exact ⟨0, Nat.zero_le _, rfl, hno.out, hV.out, gbR _ _⟩
      case round =>
        obtain ⟨j, hj, rfl, hnj, hVi, hGi⟩ := hrel
        by_cases hlt2 : j < n
        · obtain ⟨b', o', y, rfl, hb', hxj, hc⟩ := (FL.grow HFL.out hVi.out.g).cell c2_len hlt2 (by omega)
          obtain ⟨p, q⟩ := y
          have q0 := hc 0 (by omega)
          have q1 := hc 1 (by omega)
          simp only [c2, Nat.add_zero, ← Nat.add_assoc, List.getElem?_cons_zero, List.getElem?_cons_succ] at q0 q1
          have HXJ := Lib.hid hxj
          have GE := Lib.hid (gbA (gbR wr none) (.cells #[.int .i64 p, .int .i64 q] 90))
          have i2 : (j : Int) < (n : Int) := by omega
          clear hc hxj
          by_cases e : p = id
          · have HF := Lib.hid (oval_at HX.out HXJ.out hnj.out e)
            have hpe : (p == id) = true := by simpa using e
            clear e
            go_wp2_with fail
            go_ret
            exact ⟨retI (by rw [HVO.out, HF.out]), gbT hVi.out.g GE.out⟩
          · have HN := Lib.hid (hnj.out.next HX.out HXJ.out e)
            have hpe : (p == id) = false := by simpa using e
            have VV := Lib.hid (hVi.out.grow GE.out)
            have GG := Lib.hid (gbT hGi.out GE.out)
            clear e hnj hVi hGi
            go_wp2_with fail
            go_roundw
            case rel => exact ⟨j + 1, by omega, by go_num, HN.out, VV.out, GG.out⟩
            case measure => simp [intOf]; omega
        · have hjn : j = n := by omega
          subst hjn
          have HN : Hid (NoId m id (k + 1) 0) := NoId.line (by rw [HNX.out]; exact hnj.out) HX.out
          have VV := Lib.hid hVi.out
          have GG := Lib.hid (gbT hG2.out hGi.out)
          clear hnj hVi hGi
          go_wp2_with fail
          go_roundw
          case rel => exact ⟨k + 1, by omega, by go_num, HN.out, VV.out, GG.out⟩
          case measure => simp [intOf]; omega
    · have hk16 : k = 16 := by omega
      subst hk16
      have HF : Hid (oval m id = 0) := oval_none (by rw [HN15.out]; exact hno.out)
      go_wp2_with fail
      go_ret
      exact ⟨retI (by rw [HVO.out, HF.out]), hV.out.g⟩
set_option maxRecDepth 100000 in
set_option maxHeartbeats 2000000 in
theorem specOramValue_yes (m : OM) (v : Value) (id : Int) (w : World) (h : AggR w (coram m) v) (hz : m.sz ≤ 2097152) (hok : oramB m = true) (id0 : 0 ≤ id) (id1 : id ≤ 11) :
    Calls Try.prog 33 #[v, .int .i64 id] w fun e w' => e = .returned (.int .i64 (valO m id)) ∧ w.grownBy w' none := by
  have HB := Lib.hid hok
  have HVO := Lib.hid (valO_yes hok id0 id1)
  have hokk := oramB_is hok
  obtain ⟨u0, u1, u2, rfl, h0, h1, h2⟩ := coram_open h
  obtain ⟨A0, c0, rfl, hc0, hm0⟩ := cbs_rd h0
  obtain ⟨A1, c1, rfl, hc1, hm1, hfl1⟩ := plst_rd (s := 2) (fun _ => rfl) (by omega) h1
  obtain ⟨n1, hn1⟩ : ∃ n, m.st.length = n := ⟨_, rfl⟩
  have H0 := Lib.hid h0
  have HS := Lib.hid hfl1
  have HA := Lib.hid h
  have HZ := Lib.hid hz
  have HN15 := Lib.hid hokk.nb
  have HN1 := Lib.hid hn1
  rw [hn1] at hc1 HS HA ⊢
  rw [hokk.nb] at hc0 H0 HA ⊢
  have d0 : decide (0 ≤ id) = true := by simp; omega
  have d1 : decide (id ≤ 11) = true := by simp; omega
  have B1 := Lib.hid (Blk.new w 36 #[.slice A0 15 c0, .slice A1 n1 c1, u2])
  have G1 := Lib.hid (gbA (gbR w none) (.cells #[.slice A0 15 c0, .slice A1 n1 c1, u2] 36))
  clear h h0 h1 h2 hz hfl1 hok hokk id0 id1 hn1
  go_enter Try.func33, Try.ntmps33
  go_wp2_with fail
  refine (specOramOk_c m _ _ (AggR.grow HA.out G1.out) HZ.out).mono ?_
  rintro e w1 ⟨rfl, g1⟩
  rw [HB.out]
  have B2 := Lib.hid (B1.out.grow g1)
  have G2 := Lib.hid (gbT G1.out g1)
  clear B1 G1 g1
  obtain ⟨B, hB⟩ : ∃ B, w.heap.size = B := ⟨_, rfl⟩
  rw [hB] at B2 ⊢
  have e0 := B2.out.cell 0
  have e1 := B2.out.cell 1
  simp at e0 e1
  go_wp2_with fail
  refine (l01In_c id 0 11 true _ (by rw [d0, d1]; rfl)).mono ?_
  rintro e w2 ⟨rfl, rfl⟩
  go_wp2_with fail
  go_loop [5] (fun i => ∃ k : Nat, k ≤ 16 ∧ i = .int .i64 k ∧ Hid (NoId m id k 0)) (fun i => 16 - (intOf i).toNat)
  case atStart => exact ⟨0, by omega, rfl, NoId.zero m id⟩
  case round =>
    obtain ⟨k, hk, rfl, hno⟩ := hrel
    by_cases hlt : k < 16
    · have ile : (k : Int) ≤ 15 := by omega
      have dle : decide ((k : Int) ≤ 15) = true := by simp; omega
      by_cases hk15 : k < 15
      · obtain ⟨b0, o0, x, u, rfl, hb0, hxk, hcell, hu⟩ := cbs_at H0.out hk15
        obtain ⟨Ax, dx, rfl, hdx, hmx, hfl⟩ := plst_rd (s := 2) (fun _ => rfl) (by omega) hu
        have HX : Hid ((lsO m)[k]? = some x) := by unfold Hid lsO; rw [List.getElem?_append_left (by rw [HN15.out]; exact hk15)]; exact hxk
        have hlen := lsO_get_len HX.out
        have HLEN : x.length ≤ 2097152 := Nat.le_trans hlen HZ.out
        obtain ⟨n, hnx⟩ : ∃ n, x.length = n := ⟨_, rfl⟩
        rw [hnx] at hcell hdx hfl HLEN
        have HFL := Lib.hid hfl
        have hcell := gbk G2.out hcell
        have HNX := Lib.hid hnx
        have i3 : (k : Int) < 15 := by omega
        have d3 : decide ((k : Int) < 15) = true := by simp; omega
        clear hxk hu hfl hlen hnx
        rcases findI_cases x id with ⟨hf, hall⟩ | ⟨j, y, hf, hxj, hye, hall⟩
        · have HN := Lib.hid (hno.out.all_ HX.out hall)
          have HF := Lib.hid hf
          have dg : decide ((0 : Int) ≤ -1) = false := by simp
          clear hf hall
          go_wp2_with (go_at_call 73; refine (specl31Find_c Ax n dx x id _ (FL.grow HFL.out G2.out) (by omega)).mono ?_; rintro e w5 ⟨rfl, rfl⟩; rw [HF.out])
          go_round
          case rel => exact ⟨k + 1, by omega, by go_num, HN.out⟩
          case measure => simp [intOf]; omega
        · have hjn : j < n := by have := (List.getElem?_eq_some_iff.1 hxj).1; have := HNX.out; omega
          have HN := Lib.hid (NoId.upto (j := j) hno.out HX.out (by have := (List.getElem?_eq_some_iff.1 hxj).1; omega) hall)
          have HO := Lib.hid (oval_at HX.out hxj HN.out hye)
          have HF := Lib.hid hf
          obtain ⟨b', o', y', rfl, hb', hxj', hc⟩ := (FL.grow HFL.out G2.out).cell c2_len hjn (by omega)
          obtain rfl : y = y' := by rw [hxj] at hxj'; injection hxj'
          obtain ⟨p, q⟩ := y
          have q1 := hc 1 (by omega)
          simp only [c2, ← Nat.add_assoc, List.getElem?_cons_zero, List.getElem?_cons_succ] at q1
          have i2 : (j : Int) < (n : Int) := by omega
          have dg : decide (0 ≤ (j : Int)) = true := by simp
          clear hc hxj' hxj hf hall hye
          go_wp2_with (go_at_call 73; refine (specl31Find_c _ n dx x id _ (FL.grow HFL.out G2.out) (by omega)).mono ?_; rintro e w5 ⟨rfl, rfl⟩; rw [HF.out])
          go_ret
          exact ⟨retI (by rw [HVO.out, HO.out]), G2.out⟩
      · have hkk : k = 15 := by omega
        obtain ⟨x, hxe⟩ : ∃ x, m.st = x := ⟨_, rfl⟩
        have HX : Hid ((lsO m)[k]? = some x) := by unfold Hid lsO; rw [List.getElem?_append_right (by rw [HN15.out]; omega), HN15.out, hkk, hxe]; rfl
        obtain ⟨n, rfl⟩ : ∃ n, n = n1 := ⟨_, rfl⟩
        obtain ⟨Ax, rfl⟩ : ∃ A, A = A1 := ⟨_, rfl⟩
        obtain ⟨dx, rfl⟩ : ∃ d, d = c1 := ⟨_, rfl⟩
        have HFL : Hid (FL c2 2 w Ax n x) := by rw [← hxe]; exact HS.out
        have HLEN : n ≤ 2097152 := by have h1 := lsO_get_len HX.out; have h2 := HZ.out; have h3 := HN1.out; rw [hxe] at h3; omega
        have HNX : Hid (x.length = n) := by have h3 := HN1.out; rw [hxe] at h3; exact h3
        have i3 : ¬ (k : Int) < 15 := by omega
        have d3 : decide ((k : Int) < 15) = false := by simp; omega
        clear hxe hkk
        rcases findI_cases x id with ⟨hf, hall⟩ | ⟨j, y, hf, hxj, hye, hall⟩
        · have HN := Lib.hid (hno.out.all_ HX.out hall)
          have HF := Lib.hid hf
          have dg : decide ((0 : Int) ≤ -1) = false := by simp
          clear hf hall
          go_wp2_with (go_at_call 73; refine (specl31Find_c Ax n dx x id _ (FL.grow HFL.out G2.out) (by omega)).mono ?_; rintro e w5 ⟨rfl, rfl⟩; rw [HF.out])
          go_round
          case rel => exact ⟨k + 1, by omega, by go_num, HN.out⟩
          case measure => simp [intOf]; omega
        · have hjn : j < n := by have := (List.getElem?_eq_some_iff.1 hxj).1; have := HNX.out; omega
          have HN := Lib.hid (NoId.upto (j := j) hno.out HX.out (by have := (List.getElem?_eq_some_iff.1 hxj).1; omega) hall)
          have HO := Lib.hid (oval_at HX.out hxj HN.out hye)
          have HF := Lib.hid hf
          obtain ⟨b', o', y', rfl, hb', hxj', hc⟩ := (FL.grow HFL.out G2.out).cell c2_len hjn (by omega)
          obtain rfl : y = y' := by rw [hxj] at hxj'; injection hxj'
          obtain ⟨p, q⟩ := y
          have q1 := hc 1 (by omega)
          simp only [c2, ← Nat.add_assoc, List.getElem?_cons_zero, List.getElem?_cons_succ] at q1
          have i2 : (j : Int) < (n : Int) := by omega
          have dg : decide (0 ≤ (j : Int)) = true := by simp
          clear hc hxj' hxj hf hall hye
          go_wp2_with (go_at_call 73; refine (specl31Find_c _ n dx x id _ (FL.grow HFL.out G2.out) (by omega)).mono ?_; rintro e w5 ⟨rfl, rfl⟩; rw [HF.out])
          go_ret
          exact ⟨retI (by rw [HVO.out, HO.out]), G2.out⟩
    · have hk16 : k = 16 := by omega
      subst hk16
      have HF : Hid (oval m id = 0) := oval_none (by rw [HN15.out]; exact hno.out)
      have dle : decide (((16 : Nat) : Int) ≤ 15) = false := by simp
      go_wp2_with fail
      go_ret
      exact ⟨retI (by rw [HVO.out, HF.out]), G2.out⟩
theorem specOramValue_c (m : OM) (v : Value) (id : Int) (w : World) (h : AggR w (coram m) v) (hz : m.sz ≤ 2097152) :
    Calls Try.prog 33 #[v, .int .i64 id] w fun e w' => e = .returned (.int .i64 (valO m id)) ∧ w.grownBy w' none := by
  by_cases hb : oramB m = true ∧ 0 ≤ id ∧ id ≤ 11
  · exact specOramValue_yes m v id w h hz hb.1 hb.2.1 hb.2.2
  · exact specOramValue_no m v id w h hz hb
theorem implOramValue_c (m : OM) (v : Value) (id : Int) (w : World) (h : AggR w (coram m) v) (hz : m.sz ≤ 2097152) :
    Calls Try.prog 34 #[v, .int .i64 id] w fun e w' => e = .returned (.int .i64 (valO m id)) ∧ w.grownBy w' none := by
  by_cases hb : oramB m = true ∧ 0 ≤ id ∧ id ≤ 11
  · exact implOramValue_yes m v id w h hz hb.1 hb.2.1 hb.2.2
  · exact implOramValue_no m v id w h hz hb
end Go.Proofs.Ythncoohkdmjcaaa
