/-
  OramOk in the reference.
-/
import Derived.Test.YthncoohkdmjcaaaMgFnMemory20
import Derived.Test.YthncoohkdmjcaaaMgFnMemory7
namespace Go.Proofs.Ythncoohkdmjcaaa
open Go.RowKit
set_option linter.unusedVariables false
set_option linter.unusedSimpArgs false
def seenL (m : OM) (k j : Nat) : List Value := (List.range 12).map fun i : Nat => Value.bool (seenS m k j i)
theorem seenL_len (m : OM) (k j : Nat) : (seenL m k j).length = 12 := by simp [seenL]
theorem seenL_at (m : OM) (k j i : Nat) (h : i < 12) : (seenL m k j)[i]? = some (.bool (seenS m k j i)) := by simp [seenL, h]
theorem seenL_zero (m : OM) : seenL m 0 0 = List.replicate 12 (.bool false) := by
  unfold seenL; rw [seenS_zero]; rfl
theorem seenL_next {m : OM} {k j p : Nat} {l : Bks} {q : Int} (hl : (lsO m)[k]? = some l) (hb : l[j]? = some ((p : Int), q)) : (seenL m k j).set p (.bool true) = seenL m k (j + 1) := by
  apply List.ext_getElem?
  intro i
  have hn := congrFun (seenS_next hl hb) (i : Int)
  simp only at hn
  rw [List.getElem?_set]
  by_cases hi : i < 12
  · rw [seenL_at _ _ _ _ hi, seenL_at _ _ _ _ hi, ← hn]
    by_cases e : p = i
    · subst e; simp [seenL_len, hi]
    · rw [if_neg e]
      have : ¬ (i : Int) = (p : Int) := by omega
      simp [this]
  · rw [List.getElem?_eq_none (by rw [seenL_len]; omega), List.getElem?_eq_none (by rw [seenL_len]; omega), seenL_len]
    split
    · rw [if_neg (by omega)]
    · rfl
structure OkInvS (m : OM) (w : World) (B bS : Nat) (cs : Array Value) (k j : Nat) (wr : World) : Prop where
  pre : PreO m k j
  sb : wr.ownsRow 0 4 1 (.slice (some ⟨bS, 0, none⟩) 12 12) 12 (seenL m k j)
  blk : Blk wr B 36 cs
  g : w.grownBy wr none
section
variable {m : OM} {w wr w' : World} {B bS k j : Nat} {cs : Array Value} {l : Bks}
theorem OkInvS.grow (h : OkInvS m w B bS cs k j wr) (hg : wr.grownBy w' none) : OkInvS m w B bS cs k j w' := ⟨h.pre, own_grow h.sb hg, h.blk.grow hg, gbT h.g hg⟩
theorem OkInvS.line (h : OkInvS m w B bS cs k l.length wr) (hl : (lsO m)[k]? = some l) (hr : k < m.bk.length → l.length ≤ 2) : OkInvS m w B bS cs (k + 1) 0 wr :=
  ⟨h.pre.line hl hr, by have := h.sb; unfold seenL seenS at this ⊢; rw [preO_line hl]; exact this, h.blk, h.g⟩
theorem OkInvS.seen (h : OkInvS m w B bS cs k j wr) {p : Nat} (hp : p < 12) {q : Bool} (hq : seenS m k j p = q) : wr.cell? ⟨bS, p, none⟩ = some (.bool q) := by
  rw [h.sb.cellAt p (by omega), seenL_at _ _ _ _ hp, hq]
theorem OkInvS.frozen (h : OkInvS m w B bS cs k j wr) (p : Nat) : wr.frozen? ⟨bS, p, none⟩ = false := h.sb.frozenAt p
theorem OkInvS.put {p : Nat} {q : Int} (h : OkInvS m w B bS cs k j wr) (hl : (lsO m)[k]? = some l) (hb : l[j]? = some ((p : Int), q)) (g1 : bkOk ((p : Int), q)) (g2 : seenS m k j p = false) (g3 : k < m.bk.length → k ∈ opath (m.leaf p)) (hne : B ≠ bS) (hlo : w.heap.size ≤ bS) :
    OkInvS m w B bS cs k (j + 1) (wr.setCell ⟨bS, p, none⟩ (.bool true)) := by
  refine ⟨h.pre.next hl hb g1 (by simpa [seenS] using g2) g3, ?_, h.blk.far (by simpa using hne) _, gbS h.g hlo _⟩
  have := (h.sb.stored p (.bool true)).1
  rw [seenL_next hl hb] at this
  exact this
end
set_option maxRecDepth 100000 in
set_option maxHeartbeats 4000000 in
theorem specOramOk_c (m : OM) (v : Value) (w : World) (h : AggR w (coram m) v) (hz : m.sz ≤ 2097152) :
    Calls Try.prog 31 #[v] w fun e w' => e = .returned (.bool (oramB m)) ∧ w.grownBy w' none := by
  obtain ⟨u0, u1, u2, rfl, h0, h1, h2⟩ := coram_open h
  obtain ⟨A0, c0, rfl, hc0, hm0⟩ := cbs_rd h0
  obtain ⟨A1, c1, rfl, hc1, hm1, hfl1⟩ := plst_rd (s := 2) (fun _ => rfl) (by omega) h1
  obtain ⟨A2, c2', rfl, hc2, hm2, hI⟩ := cints_rd h2
  have hp : m.pos.length ≤ 2097152 := by unfold OM.sz at hz; omega
  have hb : m.bk.length ≤ 2097152 := by unfold OM.sz szB at hz; omega
  obtain ⟨n1, hn1⟩ : ∃ n, m.st.length = n := ⟨_, rfl⟩
  have H0 := Lib.hid h0
  have HS := Lib.hid hfl1
  have HI := Lib.hid hI
  have HZ := Lib.hid hz
  rw [hn1] at hc1 HS ⊢
  have HN1 := Lib.hid hn1
  clear h h0 h1 h2 hz hI hfl1
  by_cases hn : m.bk.length = 15
  · by_cases h12 : m.pos.length = 12
    · have HN15 := Lib.hid hn
      have H12 := Lib.hid h12
      rw [hn] at hc0 H0 ⊢
      rw [h12] at hc2 HI ⊢
      clear hb hp hn h12
      have B1 := Lib.hid (Blk.new w 36 #[.slice A0 15 c0, .slice A1 n1 c1, .slice A2 12 c2'])
      have G1 := Lib.hid (gbA (gbR w none) (.cells #[.slice A0 15 c0, .slice A1 n1 c1, .slice A2 12 c2'] 36))
      go_enter Try.func31, Try.ntmps31
      go_wp2_with fail
      go_loop [3] (fun i => ∃ k : Nat, k ≤ 12 ∧ i = .int .i64 k ∧ Hid (∀ j, j < k → 0 ≤ m.pos.getD j 0 ∧ m.pos.getD j 0 ≤ 7)) (fun i => 12 - (intOf i).toNat)
      case atStart => exact ⟨0, Nat.zero_le _, rfl, fun j hj => by omega⟩
      case round =>
        obtain ⟨k, hk, rfl, hall⟩ := hrel
        by_cases hlt : k < 12
        · obtain ⟨b, o, rfl, hb, cp⟩ := Ints.cell (Ints.grow HI.out G1.out) hlt
          have i1 : (k : Int) < 12 := by omega
          obtain ⟨z, hz⟩ : ∃ z, m.pos.getD k 0 = z := ⟨_, rfl⟩
          rw [hz] at cp
          by_cases h07 : 0 ≤ z ∧ z ≤ 7
          · have HE : Hid (∀ j, j < k + 1 → 0 ≤ m.pos.getD j 0 ∧ m.pos.getD j 0 ≤ 7) := fun j hj => by
              by_cases e : j = k
              · subst e; rw [hz]; exact h07
              · exact hall.out j (by omega)
            have d0 : decide (0 ≤ z) = true := by simp; omega
            have d1 : decide (z ≤ 7) = true := by simp; omega
            clear hz h07
            go_wp2_with go_in
            go_round
            case rel => exact ⟨k + 1, by omega, by go_num, HE.out⟩
            case measure => simp [intOf]; omega
          · have HE := Lib.hid (oramB_lv (leavesB_no m.pos k (by rw [H12.out]; exact hlt) (by rw [hz]; exact h07)))
            clear hz
            by_cases h0 : 0 ≤ z
            · have d0 : decide (0 ≤ z) = true := by simp; omega
              have d1 : decide (z ≤ 7) = false := by simp; omega
              clear h07
              go_wp2_with go_in
              go_ret
              exact ⟨retB HE.out.symm, G1.out⟩
            · have d0 : decide (0 ≤ z) = false := by simp; omega
              clear h07
              go_wp2_with go_in
              go_ret
              exact ⟨retB HE.out.symm, G1.out⟩
        · have hk12 : k = 12 := by omega
          subst hk12
          have HLV : Hid (leavesB m.pos = true) := by unfold Hid; rw [leavesB_all _ (by rw [H12.out]; exact hall.out), H12.out]; rfl
          have hsz0 := B1.out.lt
          obtain ⟨B, hB⟩ : ∃ B, w.heap.size = B := ⟨_, rfl⟩
          obtain ⟨w0, hw0⟩ : ∃ w0, w.alloc (.cells #[.slice A0 15 c0, .slice A1 n1 c1, .slice A2 12 c2'] 36) = w0 := ⟨_, rfl⟩
          have HSZ : Hid (w0.heap.size = B + 1) := by unfold Hid; rw [← hw0, ← hB]; simp
          rw [hw0] at B1 G1 ⊢
          rw [hB] at B1 ⊢
          clear hsz0 hw0
          have e02 := B1.out.cell 2
          simp at e02
          go_wp2_with (at_make; refine wp_makeN _ el_bool rfl _ _ rfl 12 rfl rfl (by omega) (by unfold maxLen; omega) ?_; intro w1 hown1 hg1; rw [show (Value.bool false).cells = #[.bool false] from rfl, made_one] at hown1)
          obtain ⟨bS, hbS⟩ : ∃ b, w0.heap.size = b := ⟨_, rfl⟩
          rw [hbS] at hown1 HSZ ⊢
          have hBS : B ≠ bS := by have := HSZ.out; omega
          have hlo : w.heap.size ≤ bS := by have := HSZ.out; omega
          have O0 : Hid (OkInvS m w B bS #[.slice A0 15 c0, .slice A1 n1 c1, .slice A2 12 c2'] 0 0 w1) := ⟨PreO.zero m, by rw [seenL_zero]; exact own_base hown1 (Nat.zero_le _), B1.out.grow hg1, gbT G1.out hg1⟩
          clear hown1 hg1 hall e02
          go_loopw [5] (fun i wr => ∃ k : Nat, k ≤ 16 ∧ i = .int .i64 k ∧ Hid (OkInvS m w B bS #[.slice A0 15 c0, .slice A1 n1 c1, .slice A2 12 c2'] k 0 wr)) (fun i _ => 16 - (intOf i).toNat)
          case atStart => exact ⟨0, by omega, rfl, O0.out⟩
          case round =>
            clear O0
            obtain ⟨k, hk, rfl, hO⟩ := hrel
            have e0 := hO.out.blk.cell 0
            have e1 := hO.out.blk.cell 1
            simp at e0 e1
            by_cases hlt : k < 16
            · have ile : (k : Int) ≤ 15 := by omega
              have dle : decide ((k : Int) ≤ 15) = true := by simp; omega
              by_cases hk15 : k < 15
              · obtain ⟨b0, o0, x, u, rfl, hb0, hxk, hcell, hu⟩ := cbs_at H0.out hk15
                obtain ⟨Ax, dx, rfl, hdx, hmx, hfl⟩ := plst_rd (s := 2) (fun _ => rfl) (by omega) hu
                have HX : Hid ((lsO m)[k]? = some x) := by unfold Hid lsO; rw [List.getElem?_append_left (by rw [HN15.out]; exact hk15)]; exact hxk
                have hlen := lsO_get_len HX.out
                have HLEN : x.length ≤ 2097152 := Nat.le_trans hlen HZ.out
                obtain ⟨n, hnx⟩ : ∃ n, x.length = n := ⟨_, rfl⟩
                rw [hnx] at hcell hdx hfl HLEN
                have HFL := Lib.hid hfl
                have hcell := gbk hO.out.g hcell
                have HGO := Lib.hid hO.out.g
                have HNX := Lib.hid hnx
                have i3 : (k : Int) < 15 := by omega
                have d3 : decide ((k : Int) < 15) = true := by simp; omega
                clear hxk hu hfl hlen hnx
                by_cases hroom : 2 < n
                · have HF := Lib.hid (oramB_room HX.out (by rw [HN15.out]; exact hk15) (by rw [HNX.out]; exact hroom))
                  have i2 : (2 : Int) < (n : Int) := by omega
                  clear hO
                  go_wp2_with fail
                  go_ret
                  exact ⟨retB HF.out.symm, HGO.out⟩
                have i5 : ¬ (2 : Int) < (n : Int) := by omega
                have HRM : Hid (k < m.bk.length → x.length ≤ 2) := fun h => by rw [HNX.out]; omega
                have HO := Lib.hid hO.out
                clear hO
                go_wp2_with fail
                obtain ⟨wo, rfl⟩ : ∃ wo : World, wo = wr := ⟨_, rfl⟩
                clear e0 e1
                go_loopw [7] (fun i wi => ∃ j : Nat, j ≤ n ∧ i = .int .i64 j ∧ Hid (OkInvS m w B bS #[.slice (some ⟨b0, o0, none⟩) 15 c0, .slice A1 n1 c1, .slice A2 12 c2'] k j wi)) (fun i _ => n - (intOf i).toNat)
                case atStart => exact ⟨0, Nat.zero_le _, rfl, HO.out⟩
                case round =>
                  obtain ⟨j, hj, rfl, hJ⟩ := hrel
                  by_cases hlt2 : j < n
                  · have HFLw := FL.grow HFL.out hJ.out.g
                    obtain ⟨b', o', y, rfl, hb', hxj, hc⟩ := HFLw.cell c2_len hlt2 (by omega)
                    obtain ⟨p, q⟩ := y
                    have q0 := hc 0 (by omega)
                    have q1 := hc 1 (by omega)
                    simp only [c2, Nat.add_zero, ← Nat.add_assoc, List.getElem?_cons_zero, List.getElem?_cons_succ] at q0 q1
                    have HXJ := Lib.hid hxj
                    have BAD := Lib.hid (fun h => oramB_bad HX.out HXJ.out h)
                    have HJ := Lib.hid hJ.out
                    have GE := Lib.hid (gbA HJ.out.g (.cells #[.int .i64 p, .int .i64 q] 90))
                    have JE := Lib.hid (HJ.out.grow (gbA (gbR wr none) (.cells #[.int .i64 p, .int .i64 q] 90)))
                    have NB := Lib.hid (Blk.new wr 90 #[.int .i64 p, .int .i64 q])
                    have i2 : (j : Int) < (n : Int) := by omega
                    clear hc hxj hJ HFLw
                    cases hbk : bkB (p, q) with
                    | false =>
                      have HF := Lib.hid (BAD.out fun h1 _ _ => by have := bkB_is.2 h1; rw [hbk] at this; cases this)
                      have HBK := Lib.hid hbk
                      clear hbk
                      go_wp2_with (go_at_call 69; refine (specl31Block_c p q _).mono ?_; rintro e w5 ⟨rfl, g5⟩; rw [HBK.out])
                      go_ret
                      exact ⟨retB HF.out.symm, gbT GE.out g5⟩
                    | true =>
                      have hok := bkB_is.1 hbk
                      obtain ⟨pn, rfl⟩ := Int.eq_ofNat_of_zero_le hok.1
                      have p11 : pn ≤ 11 := by have := hok.2.1; simp at this; omega
                      have ip : (pn : Int) < 12 := by omega
                      have HOKB := Lib.hid hok
                      have HBK := Lib.hid hbk
                      clear hbk hok
                      cases hs : seenS m k j pn with
                      | true =>
                        have HF := Lib.hid (BAD.out fun _ h2 _ => by simp [seenS] at hs; obtain ⟨q', hs⟩ := hs; exact h2 (List.mem_map.2 ⟨_, hs, rfl⟩))
                        have HSE := Lib.hid hs
                        clear hs
                        go_wp2_with (go_at_call 69; refine (specl31Block_c pn q _).mono ?_; rintro e w5 ⟨rfl, g5⟩; rw [HBK.out]; have G5 := Lib.hid g5; have c7 := (NB.out.grow g5).cell 0; have s5 := (JE.out.grow g5).seen (p := pn) (by omega) HSE.out; simp at c7)
                        go_ret
                        exact ⟨retB HF.out.symm, gbT GE.out G5.out⟩
                      | false =>
                        have HSE := Lib.hid hs
                        clear hs

                        obtain ⟨bp, op, rfl, hbp, cp⟩ := Ints.cell (k := pn) (Ints.grow HI.out GE.out) (by omega)
                        obtain ⟨z, hz⟩ : ∃ z, m.pos.getD pn 0 = z := ⟨_, rfl⟩
                        rw [hz] at cp
                        have HLF := Lib.hid (leaf_at (m := m) hz)
                        have CP := Lib.hid cp
                        clear hz cp
                        cases hp : decide (k ∈ opath z) with
                        | false =>
                          have HF := Lib.hid (BAD.out fun _ _ h3 => by have h4 := h3 (by rw [HN15.out]; exact hk15); rw [HLF.out] at h4; simp at hp; exact hp h4)
                          have HP := Lib.hid hp
                          clear hp
                          go_wp2_with (first | (go_at_call 69; refine (specl31Block_c pn q _).mono ?_; rintro e w5 ⟨rfl, g5⟩; rw [HBK.out]; have G5 := Lib.hid g5; have c7 := (NB.out.grow g5).cell 0; have s5 := (JE.out.grow g5).seen (p := pn) (by omega) HSE.out; have e50 := (JE.out.grow g5).blk.cell 0; have e52 := (JE.out.grow g5).blk.cell 2; have cp5 := gbk g5 CP.out; simp at c7 e50 e52) | (go_at_call 70; refine (sHolds_c k z _).mono ?_; rintro e w6 ⟨rfl, g6⟩; rw [HP.out]))
                          go_ret
                          exact ⟨retB HF.out.symm, gbT GE.out (gbT G5.out g6)⟩
                        | true =>
                          have HO3 : Hid (k < m.bk.length → k ∈ opath (m.leaf pn)) := fun _ => by rw [HLF.out]; simpa using hp
                          have HP := Lib.hid hp
                          clear hp
                          go_wp2_with (first | (go_at_call 69; refine (specl31Block_c pn q _).mono ?_; rintro e w5 ⟨rfl, g5⟩; rw [HBK.out]; have G5 := Lib.hid g5; have c7 := (NB.out.grow g5).cell 0; have s5 := (JE.out.grow g5).seen (p := pn) (by omega) HSE.out; have e50 := (JE.out.grow g5).blk.cell 0; have e52 := (JE.out.grow g5).blk.cell 2; have cp5 := gbk g5 CP.out; simp at c7 e50 e52) | (go_at_call 70; refine (sHolds_c k z _).mono ?_; rintro e w6 ⟨rfl, g6⟩; rw [HP.out]; have J6 := Lib.hid ((JE.out.grow G5.out).grow g6); have c76 := ((NB.out.grow G5.out).grow g6).cell 0; have s6 := J6.out.seen (p := pn) (by omega) HSE.out; have f6 := J6.out.frozen pn; simp at c76))
                          have J7 := Lib.hid (J6.out.put HX.out HXJ.out HOKB.out HSE.out HO3.out hBS hlo)
                          go_roundw
                          case rel => exact ⟨j + 1, by omega, by go_num, J7.out⟩
                          case measure => simp [intOf]; omega

                  · have hjn : j = n := by omega
                    subst hjn
                    have JL := Lib.hid (OkInvS.line (by rw [HNX.out]; exact hJ.out) HX.out HRM.out)
                    clear hJ
                    go_wp2_with fail
                    go_roundw
                    case rel => exact ⟨k + 1, by omega, by go_num, JL.out⟩
                    case measure => simp [intOf]; omega
              · have hkk : k = 15 := by omega
                obtain ⟨x, hxe⟩ : ∃ x, m.st = x := ⟨_, rfl⟩
                have HX : Hid ((lsO m)[k]? = some x) := by unfold Hid lsO; rw [List.getElem?_append_right (by rw [HN15.out]; omega), HN15.out, hkk, hxe]; rfl
                obtain ⟨n, rfl⟩ : ∃ n, n = n1 := ⟨_, rfl⟩
                obtain ⟨Ax, rfl⟩ : ∃ A, A = A1 := ⟨_, rfl⟩
                obtain ⟨dx, rfl⟩ : ∃ d, d = c1 := ⟨_, rfl⟩
                have HFL : Hid (FL c2 2 w Ax n x) := by rw [← hxe]; exact HS.out
                have HGO := Lib.hid hO.out.g
                have HLEN : n ≤ 2097152 := by have h1 := lsO_get_len HX.out; have h2 := HZ.out; have h3 := HN1.out; rw [hxe] at h3; omega
                have HNX : Hid (x.length = n) := by have h3 := HN1.out; rw [hxe] at h3; exact h3
                have HRM : Hid (k < m.bk.length → x.length ≤ 2) := fun h => by rw [HN15.out] at h; omega
                have i3 : ¬ (k : Int) < 15 := by omega
                have d3 : decide ((k : Int) < 15) = false := by simp; omega
                have HKK := Lib.hid hkk
                clear hxe hkk
                have HO := Lib.hid hO.out
                clear hO
                go_wp2_with fail
                obtain ⟨wo, rfl⟩ : ∃ wo : World, wo = wr := ⟨_, rfl⟩
                clear e0 e1
                go_loopw [7] (fun i wi => ∃ j : Nat, j ≤ n ∧ i = .int .i64 j ∧ Hid (OkInvS m w B bS #[.slice A0 15 c0, .slice Ax n dx, .slice A2 12 c2'] k j wi)) (fun i _ => n - (intOf i).toNat)
                case atStart => exact ⟨0, Nat.zero_le _, rfl, HO.out⟩
                case round =>
                  obtain ⟨j, hj, rfl, hJ⟩ := hrel
                  by_cases hlt2 : j < n
                  · have HFLw := FL.grow HFL.out hJ.out.g
                    obtain ⟨b', o', y, rfl, hb', hxj, hc⟩ := HFLw.cell c2_len hlt2 (by omega)
                    obtain ⟨p, q⟩ := y
                    have q0 := hc 0 (by omega)
                    have q1 := hc 1 (by omega)
                    simp only [c2, Nat.add_zero, ← Nat.add_assoc, List.getElem?_cons_zero, List.getElem?_cons_succ] at q0 q1
                    have HXJ := Lib.hid hxj
                    have BAD := Lib.hid (fun h => oramB_bad HX.out HXJ.out h)
                    have HJ := Lib.hid hJ.out
                    have GE := Lib.hid (gbA HJ.out.g (.cells #[.int .i64 p, .int .i64 q] 90))
                    have JE := Lib.hid (HJ.out.grow (gbA (gbR wr none) (.cells #[.int .i64 p, .int .i64 q] 90)))
                    have NB := Lib.hid (Blk.new wr 90 #[.int .i64 p, .int .i64 q])
                    have i2 : (j : Int) < (n : Int) := by omega
                    clear hc hxj hJ HFLw
                    cases hbk : bkB (p, q) with
                    | false =>
                      have HF := Lib.hid (BAD.out fun h1 _ _ => by have := bkB_is.2 h1; rw [hbk] at this; cases this)
                      have HBK := Lib.hid hbk
                      clear hbk
                      go_wp2_with (go_at_call 69; refine (specl31Block_c p q _).mono ?_; rintro e w5 ⟨rfl, g5⟩; rw [HBK.out])
                      go_ret
                      exact ⟨retB HF.out.symm, gbT GE.out g5⟩
                    | true =>
                      have hok := bkB_is.1 hbk
                      obtain ⟨pn, rfl⟩ := Int.eq_ofNat_of_zero_le hok.1
                      have p11 : pn ≤ 11 := by have := hok.2.1; simp at this; omega
                      have ip : (pn : Int) < 12 := by omega
                      have HOKB := Lib.hid hok
                      have HBK := Lib.hid hbk
                      clear hbk hok
                      cases hs : seenS m k j pn with
                      | true =>
                        have HF := Lib.hid (BAD.out fun _ h2 _ => by simp [seenS] at hs; obtain ⟨q', hs⟩ := hs; exact h2 (List.mem_map.2 ⟨_, hs, rfl⟩))
                        have HSE := Lib.hid hs
                        clear hs
                        go_wp2_with (go_at_call 69; refine (specl31Block_c pn q _).mono ?_; rintro e w5 ⟨rfl, g5⟩; rw [HBK.out]; have G5 := Lib.hid g5; have c7 := (NB.out.grow g5).cell 0; have s5 := (JE.out.grow g5).seen (p := pn) (by omega) HSE.out; simp at c7)
                        go_ret
                        exact ⟨retB HF.out.symm, gbT GE.out G5.out⟩
                      | false =>
                        have HSE := Lib.hid hs
                        clear hs

                        have HO3 : Hid (k < m.bk.length → k ∈ opath (m.leaf pn)) := fun h => by rw [HN15.out] at h; have := HKK.out; omega
                        go_wp2_with (go_at_call 69; refine (specl31Block_c pn q _).mono ?_; rintro e w5 ⟨rfl, g5⟩; rw [HBK.out]; have J6 := Lib.hid (JE.out.grow g5); have c7 := (NB.out.grow g5).cell 0; have s5 := J6.out.seen (p := pn) (by omega) HSE.out; have f5 := J6.out.frozen pn; have e50 := J6.out.blk.cell 0; simp at c7 e50)
                        have J7 := Lib.hid (J6.out.put HX.out HXJ.out HOKB.out HSE.out HO3.out hBS hlo)
                        go_roundw
                        case rel => exact ⟨j + 1, by omega, by go_num, J7.out⟩
                        case measure => simp [intOf]; omega

                  · have hjn : j = n := by omega
                    subst hjn
                    have JL := Lib.hid (OkInvS.line (by rw [HNX.out]; exact hJ.out) HX.out HRM.out)
                    clear hJ
                    go_wp2_with fail
                    go_roundw
                    case rel => exact ⟨k + 1, by omega, by go_num, JL.out⟩
                    case measure => simp [intOf]; omega
            · have hk16 : k = 16 := by omega
              subst hk16
              have HF : Hid (oramB m = true) := oramB_yes (PreO.done (by rw [HN15.out]; exact hO.out.pre) HN15.out H12.out (leavesB_is HLV.out).2)
              have GW := Lib.hid hO.out.g
              have dle : decide (((16 : Nat) : Int) ≤ 15) = false := by simp
              clear hO
              go_wp2_with fail
              go_ret
              exact ⟨retB HF.out.symm, GW.out⟩
    · have HB := Lib.hid (oramB_no (o := m) fun k => h12 k.np)
      obtain ⟨np, hnp⟩ : ∃ n, m.pos.length = n := ⟨_, rfl⟩
      rw [hn] at hc0 ⊢
      rw [hnp] at hp h12 ⊢
      have d : ((np : Int) != 12) = true := by simp; omega
      go_enter Try.func31, Try.ntmps31
      go_wp2_with fail
      go_ret
      exact ⟨retB HB.out.symm, gbA (gbR _ _) _⟩
  · have HB := Lib.hid (oramB_nb hn)
    obtain ⟨nb, hnb⟩ : ∃ n, m.bk.length = n := ⟨_, rfl⟩
    rw [hnb] at hn hb ⊢
    have d : ((nb : Int) != 15) = true := by simp; omega
    go_enter Try.func31, Try.ntmps31
    go_wp2_with fail
    go_ret
    exact ⟨retB HB.out.symm, gbA (gbR _ _) _⟩
end Go.Proofs.Ythncoohkdmjcaaa
