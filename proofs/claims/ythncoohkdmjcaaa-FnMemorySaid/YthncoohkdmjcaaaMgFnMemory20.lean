/-
  OramOk: reference and program.
-/
import Derived.Test.YthncoohkdmjcaaaMgFnMemory19
namespace Go.Proofs.Ythncoohkdmjcaaa
open Go.RowKit
set_option linter.unusedVariables false
set_option linter.unusedSimpArgs false
theorem wf_nat (n : Nat) (h : n ≤ 1000000) : (Lit.int .i64 (n : Int)).wf = true := Go.WalkArith.wf_i64 (by omega)
theorem oramB_nb {m : OM} (h : m.bk.length ≠ 15) : oramB m = false := oramB_no fun k => h k.nb
theorem oramB_lv {m : OM} (h : leavesB m.pos = false) : oramB m = false := oramB_no fun k => by
  have : leavesB m.pos = true := by
    rw [leavesB_all _ fun j hj => k.pr _ (by rw [getI _ _ hj]; exact List.getElem_mem hj), k.np]; rfl
  rw [this] at h; cases h
theorem oramB_bad {m : OM} {k j : Nat} {l : Bks} {b : Int × Int} (hl : (lsO m)[k]? = some l) (hb : l[j]? = some b) (h : bkOk b → b.1 ∉ (preO m k j).map (·.1) → (k < m.bk.length → k ∈ opath (m.leaf b.1)) → False) : oramB m = false :=
  oramB_no fun ho => by obtain ⟨h1, h2, h3⟩ := ho.at_ hl hb; exact h h1 h2 h3
theorem oramB_room {m : OM} {k : Nat} {l : Bks} (hl : (lsO m)[k]? = some l) (hk : k < m.bk.length) (h : 2 < l.length) : oramB m = false :=
  oramB_no fun ho => by have := ho.room_at hl hk; omega
def seenS (m : OM) (k j : Nat) (i : Int) : Bool := decide (i ∈ (preO m k j).map (·.1))
theorem seenS_zero (m : OM) : seenS m 0 0 = fun _ => false := by funext i; simp [seenS, preO_zero]
theorem seenS_next {m : OM} {k j : Nat} {l : Bks} {b : Int × Int} (hl : (lsO m)[k]? = some l) (hb : l[j]? = some b) : (fun i => decide (i = b.1) || seenS m k j i) = seenS m k (j + 1) := by
  funext i
  rw [Bool.eq_iff_iff]
  simp only [seenS, preO_next hl hb, List.map_append, List.mem_append, Bool.or_eq_true, decide_eq_true_eq, List.map_cons, List.map_nil, List.mem_singleton]
  exact Or.comm
theorem all_len (m : OM) : m.all.length = sumL m.bk m.bk.length + m.st.length := by
  unfold OM.all sumL
  rw [List.take_length, List.length_append, List.length_flatten]
theorem preO_len {m : OM} {k j : Nat} {l : Bks} {b : Int × Int} (hl : (lsO m)[k]? = some l) (hb : l[j]? = some b) : (preO m k j).length < m.sz := by
  obtain ⟨r, hr⟩ := preO_split hl hb
  have h1 := congrArg List.length hr
  rw [all_len] at h1
  simp at h1
  unfold OM.sz szB
  omega
theorem lsO_get_len {m : OM} {k : Nat} {l : Bks} (hl : (lsO m)[k]? = some l) : l.length ≤ m.sz := by
  have h1 : l ∈ lsO m := List.mem_of_getElem? hl
  unfold lsO at h1
  unfold OM.sz szB
  rcases List.mem_append.1 h1 with h1 | h1
  · have := len_sumL m.bk l h1; omega
  · simp at h1; subst h1; omega
theorem leaf_at {m : OM} {p : Nat} {z : Int} (hz : m.pos.getD p 0 = z) : m.leaf (p : Int) = z := by simpa [OM.leaf] using hz
/-- What is known within the walk. -/
structure OkInv (m : OM) (w : World) (B bM : Nat) (cs : Array Value) (k j : Nat) (wr : World) : Prop where
  pre : PreO m k j
  mp : MapB wr bM (preO m k j).length (seenS m k j)
  blk : Blk wr B 36 cs
  g : w.grownBy wr none
theorem OkInv.grow {m : OM} {w wr w' : World} {B bM k j : Nat} {cs : Array Value} (h : OkInv m w B bM cs k j wr) (hg : wr.grownBy w' none) : OkInv m w B bM cs k j w' := ⟨h.pre, h.mp.grow hg, h.blk.grow hg, gbT h.g hg⟩
theorem OkInv.line {m : OM} {w wr : World} {B bM k : Nat} {cs : Array Value} {l : Bks} (h : OkInv m w B bM cs k l.length wr) (hl : (lsO m)[k]? = some l) (hr : k < m.bk.length → l.length ≤ 2) : OkInv m w B bM cs (k + 1) 0 wr :=
  ⟨h.pre.line hl hr, by have := h.mp; unfold seenS at this ⊢; rw [preO_line hl]; exact this, h.blk, h.g⟩
theorem OkInv.put {m : OM} {w w5 w6 : World} {B bM k j : Nat} {cs : Array Value} {l : Bks} {p : Int × Int} (h : OkInv m w B bM cs k j w5) (hl : (lsO m)[k]? = some l) (hb : l[j]? = some p) (g1 : bkOk p) (g2 : seenS m k j p.1 = false) (g3 : k < m.bk.length → k ∈ opath (m.leaf p.1))
    (mp : MapB w6 bM ((preO m k j).length + 1) (fun i => decide (i = p.1) || seenS m k j i)) (hg : w5.grownBy w6 (some bM)) (hne : B ≠ bM) (hlo : w.heap.size ≤ bM) : OkInv m w B bM cs k (j + 1) w6 := by
  refine ⟨h.pre.next hl hb g1 (by simpa [seenS] using g2) g3, ?_, h.blk.grown hg (by simpa using hne), gbN h.g hg fun g e => by injection e with e; omega⟩
  rw [seenS_next hl hb] at mp
  rw [preO_next hl hb]
  simpa using mp
set_option maxRecDepth 100000 in
set_option maxHeartbeats 4000000 in
theorem implOramOk_c (m : OM) (v : Value) (w : World) (h : AggR w (coram m) v) (hz : m.sz ≤ 2097152) :
    Calls Try.prog 32 #[v] w fun e w' => e = .returned (.bool (oramB m)) ∧ w.grownBy w' none := by
  obtain ⟨u0, u1, u2, rfl, h0, h1, h2⟩ := coram_open h
  obtain ⟨A0, c0, vs, rfl, hc0, hm0, hv0, hr0⟩ := lst_rd (s := 1) (fun _ => rfl) (by omega) h0
  obtain ⟨A1, c1, rfl, hc1, hm1, _⟩ := plst_rd (s := 2) (fun _ => rfl) (by omega) h1
  obtain ⟨A2, c2', rfl, hc2, hm2, hI⟩ := cints_rd h2
  have hp : m.pos.length ≤ 2097152 := by unfold OM.sz at hz; omega
  have hb : m.bk.length ≤ 2097152 := by unfold OM.sz szB at hz; omega
  obtain ⟨n1, hn1⟩ : ∃ n, m.st.length = n := ⟨_, rfl⟩
  have H1 : Hid (∀ u ∈ vs, u.oneCell' = true) := hv0.one
  have HV := Lib.hid hv0
  have HS := Lib.hid h1
  have HI := Lib.hid hI
  have HZ := Lib.hid hz
  rw [hn1] at hc1 HS ⊢
  have HN1 := Lib.hid hn1
  have hmm := @run_makeMap Try.prog
  clear h h0 h1 h2 hz hv0 hI
  by_cases hn : m.bk.length = 15
  · obtain ⟨npos, hnp⟩ : ∃ n, m.pos.length = n := ⟨_, rfl⟩
    cases hlv : leavesB m.pos with
    | false =>
      have HL := Lib.hid (oramB_lv hlv)
      have HLV := Lib.hid hlv
      rw [hnp] at hc2 HI hp ⊢
      rw [hn] at hc0 hr0 ⊢
      clear hlv
      go_enter Try.func32, Try.ntmps32
      go_wp2_with fail
      refine (implareLeaves_c A2 npos c2' m.pos _ (Ints.grow HI.out (gbA (gbR w none) _)) (by omega)).mono ?_
      rintro e w1 ⟨rfl, rfl⟩
      rw [HLV.out]
      go_wp2_with fail
      go_ret
      exact ⟨retB HL.out.symm, gbA (gbR _ _) _⟩
    | true =>
      have HLV := Lib.hid hlv
      have HN15 := Lib.hid hn
      have hn12 := (leavesB_is hlv).1
      have H12 := Lib.hid hn12
      rw [hn] at hc0 hr0 ⊢
      rw [hn12] at hc2 HI ⊢
      clear hlv hb hp hn hnp hn12
      have R0' := Lib.hid hr0
      have B1 := Lib.hid (Blk.new w 36 #[.slice A0 15 c0, .slice A1 n1 c1, .slice A2 12 c2'])
      have G1 := Lib.hid (gbA (gbR w none) (.cells #[.slice A0 15 c0, .slice A1 n1 c1, .slice A2 12 c2'] 36))
      clear hr0
      have hsz0 := B1.out.lt
      go_enter Try.func32, Try.ntmps32
      go_wp2_with fail
      refine (implareLeaves_c A2 12 c2' m.pos _ (Ints.grow HI.out G1.out) (by omega)).mono ?_
      rintro e w1 ⟨rfl, hw⟩
      rw [HLV.out]
      rw [hw] at B1 G1
      clear hw
      obtain ⟨B, hB⟩ : ∃ B, w.heap.size = B := ⟨_, rfl⟩
      rw [hB] at B1 ⊢
      have E0 : Hid ((w1.alloc (.map #[] 0)).cell? ⟨B, 0, none⟩ = some (.slice A0 15 c0)) := kA (B1.out.cell 0) _
      have E1 : Hid ((w1.alloc (.map #[] 0)).cell? ⟨B, 1, none⟩ = some (.slice A1 n1 c1)) := kA (B1.out.cell 1) _
      have R0 := Lib.hid (Rd.grow R0'.out (gbA G1.out (.map #[] 0)))
      have BT := Lib.hid B1.out.lt
      go_wp2_with fail
      refine region_reg4 [onT 19 (rowF (w1.alloc (.map #[] 0)).heap.size 34 0 (· = 0) []), onT 20 (isV (.pointer (some ⟨B, 0, none⟩))), onT 21 (isV (.slice A0 15 c0)), onT 22 (rowF (w1.alloc (.map #[] 0)).heap.size 34 15 (fun c => 15 ≤ c ∧ c ≤ maxLen) vs), onT 23 (isV (.pointer (some ⟨B, 1, none⟩))), onT 24 (isV (.slice A1 n1 c1)), onT 25 (rowF (w1.alloc (.map #[] 0)).heap.size 34 1 (· = 1) [.slice A1 n1 c1]), onT 26 (rowF (w1.alloc (.map #[] 0)).heap.size 34 16 (fun c => 16 ≤ c ∧ c ≤ maxLen) (vs ++ [.slice A1 n1 c1])), onT 27 (isV (.int .i64 16)), onT 28 (isV (.int .i64 0))] [] (by kernel_rfl) (by kernel_rfl) (by kernel_rfl) (by simp [stablesF, stableF_on, isV_st, rowF_st]) ?_ ?_
      · simp only [hops4, and_true]
        refine ⟨?_, ?_, ?_, ?_, ?_, ?_, ?_, ?_, ?_, ?_⟩
        rotate_left 3
        · intro f w4 hG _ hd
          simp [depsF, bindE, List.filter_cons, bd_data, bd_chain, bd_guard, bd_phase, bd_text, bd_gc, fAt, onT_at, isV] at hd
          obtain ⟨⟨g0, cc, e0, hcc, o0⟩, h21⟩ := hd
          subst hcc
          rw [e0] at o0
          have hg4 := chgNil hG
          have hs4 := hg4.size
          try simp at hs4
          have R4 := Rd.grow (Rd.grow R0.out (gbD (gbR _ none))) hg4
          simp [puts, dsts, Act.put, e0, h21]
          refine wp_appendKR w4 elBlockS rfl (.tmp 19) (.tmp 21) rfl _ _ 0 [] o0 rfl A0 15 c0 vs rfl R4 (by omega) H1.out (by unfold maxLen; omega) (by omega) hs4 ?_
          intro v' w5 o5 g5 k5
          obtain ⟨gn, cn, rfl, hcn, hbn, hmn⟩ := own_form2 o5 (by decide)
          refine ⟨_, rfl, ⟨gn, cn, rfl, ⟨hcn, hmn⟩, by simpa [upd_some, fAt, onT] using o5⟩, Or.inr ⟨Chg.of g5 fun x hx => by have := (o0.lt x hx).1; first | exact this | exact .inl this, ?_⟩⟩
          simp [keeps, onT_at, isV]
          exact ⟨fun _ => ⟨g0, 0, e0, rfl, by rw [e0]; exact k5⟩, fun hk => rowF_keep hk o0 (by omega) g5, fun hk => rowF_keep hk o0 (by omega) g5⟩
        rotate_left 3
        · intro f w4 hG _ hd
          simp [depsF, bindE, List.filter_cons, bd_data, bd_chain, bd_guard, bd_phase, bd_text, bd_gc, fAt, onT_at, isV] at hd
          obtain ⟨⟨g0, cc, e0, hcc, o0⟩, ⟨g1, cd, e1, hcd, o1⟩, _⟩ := hd
          subst hcd
          rw [e0] at o0
          rw [e1] at o1
          have hg4 := chgNil hG
          have hs4 := hg4.size
          try simp at hs4
          have R4 := Rd.ofOwn o1
          simp [puts, dsts, Act.put, e0, e1]
          refine wp_appendKR w4 elBlockS rfl (.tmp 22) (.tmp 25) rfl _ _ 15 vs o0 rfl (some ⟨g1, 0, none⟩) 1 1 _ rfl R4 (by omega) (by simp [Value.oneCell']) (by unfold maxLen; omega) (by omega) hs4 ?_
          intro v' w5 o5 g5 k5
          obtain ⟨gn, cn, rfl, hcn, hbn, hmn⟩ := own_form2 o5 (by decide)
          refine ⟨_, rfl, ⟨gn, cn, rfl, ⟨hcn, hmn⟩, by simpa [upd_some, fAt, onT] using o5⟩, Or.inr ⟨Chg.of g5 fun x hx => by have := (o0.lt x hx).1; first | exact this | exact .inl this, ?_⟩⟩
          simp [keeps, onT_at, isV]
          exact ⟨fun hk => rowF_keep hk o0 (by omega) g5, fun _ => ⟨g0, cc, e0, hcc, by rw [e0]; exact k5⟩, fun hk => rowF_keep hk o0 (by omega) g5⟩
        all_goals
          intro f w4 hG _ hd
          have hg4 := chgNil hG
          have hs4 := hg4.size
          try simp at hs4
          have k0 := gbk hg4 (kD E0.out)
          have k1 := gbk hg4 (kD E1.out)
          clear hG
          simp [depsF, bindE, List.filter_cons, bd_data, bd_chain, bd_guard, bd_phase, bd_text, bd_gc, fAt, onT_at, isV] at hd
          try obtain ⟨gq, cq, hd, _, oq⟩ := hd
          first | simp [puts, dsts, Act.put, hd] | simp [puts, dsts, Act.put]
          go_wp2_with fail
          first
            | exact ⟨_, rfl, by simp [fAt, onT_at, upd_some, isV], Or.inl (gbR _ _)⟩
            | exact ⟨_, rfl, ⟨_, 0, rfl, rfl, World.ownsRow_made w4 #[] 0 hs4 (by simp) rfl⟩, Or.inl (gbA (gbR _ _) _)⟩
            | exact ⟨_, rfl, ⟨_, 1, rfl, rfl, own_lit1 hs4 _ _⟩, Or.inl (gbA (gbR _ _) _)⟩
      intro f w2 hG hd
      have hgw2 := Lib.hid (gbT (gbD (gbR (w1.alloc (.map #[] 0)) none)) (chgNil hG))
      simp [knowsF, onT_at, isV] at hd
      obtain ⟨⟨g0_, c0_, q0, e0_, _⟩, q1, q2, ⟨g3_, c3_, q3, _, _⟩, q4, q5, ⟨g6_, c6_, q6, e6_, _⟩, ⟨gR, cR, q7, hcR, oR⟩, q8, q9⟩ := hd
      subst e0_
      subst e6_
      rw [q7] at oR
      have hR := Lib.hid oR
      simp only [puts, dsts, Act.put, q0, q1, q2, q3, q4, q5, q6, q7, q8, q9, List.filterMap_cons, List.filterMap_nil, List.setIfInBounds_toArray, List.set_cons_zero, List.set_cons_succ]
      clear q0 q1 q2 q3 q4 q5 q6 q7 q8 q9 oR hG
      have hRlt := (hR.out.lt gR rfl).1
      try simp at hRlt
      have O0 : Hid (OkInv m w B w1.heap.size #[.slice A0 15 c0, .slice A1 n1 c1, .slice A2 12 c2'] 0 0 w2) := ⟨PreO.zero m, by rw [seenS_zero, preO_zero]; exact (MapB.made w1).grow hgw2.out, (B1.out.grow (gbA (gbR _ none) _)).grow hgw2.out, gbT (gbA G1.out _) hgw2.out⟩
      obtain ⟨bM, hbM⟩ : ∃ b, w1.heap.size = b := ⟨_, rfl⟩
      have hbm0 := G1.out.size
      rw [hbM] at O0 hRlt hbm0 ⊢
      have hBM : B ≠ bM := by have h1 := BT.out; omega
      clear E0 E1 R0 hgw2
      have hRR := Lib.hid hR.out
      go_wp2_with fail
      go_loopw [28] (fun i wr => ∃ k : Nat, k ≤ 16 ∧ i = .int .i64 k ∧ Hid (OkInv m w B bM #[.slice A0 15 c0, .slice A1 n1 c1, .slice A2 12 c2'] k 0 wr) ∧ Hid (w2.grownBy wr (some bM))) (fun i _ => 16 - (intOf i).toNat)
      case atStart => exact ⟨0, by omega, rfl, O0.out, gbR _ _⟩
      case round =>
        obtain ⟨k, hk, rfl, hO, hG2⟩ := hrel
        by_cases hlt : k < 16
        · have hRk : Hid (wr.ownsRow 0 34 1 (.slice (some ⟨gR, 0, none⟩) 16 cR) 16 (vs ++ [.slice A1 n1 c1])) := own_base (own_grown hRR.out hG2.out (.inr (by simp [Value.ownBlock]; omega))) (Nat.zero_le _)
          obtain ⟨x, Ax, dx, hx, hcell, hdx, hmx, hfl⟩ := row16_at (m := m) HV.out HS.out (by rw [HN15.out]) hRk.out hlt
          have hlen := lsO_get_len hx
          have HX := Lib.hid hx
          have HFL := Lib.hid hfl
          have HLEN : x.length ≤ 2097152 := Nat.le_trans hlen HZ.out
          obtain ⟨n, hnx⟩ : ∃ n, x.length = n := ⟨_, rfl⟩
          rw [hnx] at hcell hdx HFL HLEN
          have HNX := Lib.hid hnx
          have i1 : (k : Int) < 16 := by omega
          clear hx hfl hlen hnx
          by_cases hroom : k < 15 ∧ 2 < n
          · obtain ⟨hk15, hr2⟩ := hroom
            have HF := Lib.hid (oramB_room HX.out (by rw [HN15.out]; exact hk15) (by rw [HNX.out]; exact hr2))
            have GW := Lib.hid hO.out.g
            have d1 : decide ((k : Int) < 15) = true := by simp; omega
            have d2 : decide ((n : Int) > 2) = true := by simp; omega
            have i2 : (2 : Int) < (n : Int) := by omega
            have i3 : (k : Int) < 15 := by omega
            clear hO hG2
            go_wp2_with fail
            go_ret
            exact ⟨retB HF.out.symm, GW.out⟩
          · have HRM : Hid (k < m.bk.length → x.length ≤ 2) := fun h => by rw [HN15.out] at h; rw [HNX.out]; omega
            by_cases hk15 : k < 15
            · have i3 : (k : Int) < 15 := by omega
              have i4 : ¬ (2 : Int) < (n : Int) ∨ ¬ (k : Int) < 15 := by omega
              have i5 : ¬ (2 : Int) < (n : Int) := by omega
              have HO := Lib.hid hO.out
              have HG2 := Lib.hid hG2.out
              clear hO hG2 hroom i4
              go_wp2_with fail
              obtain ⟨wo, rfl⟩ : ∃ wo : World, wo = wr := ⟨_, rfl⟩
              go_loopw [42] (fun i wi => ∃ j : Nat, j ≤ n ∧ i = .int .i64 j ∧ Hid (OkInv m w B bM #[.slice A0 15 c0, .slice A1 n1 c1, .slice A2 12 c2'] k j wi) ∧ Hid (wo.grownBy wi (some bM))) (fun i _ => n - (intOf i).toNat)
              case atStart => exact ⟨0, Nat.zero_le _, rfl, HO.out, gbR _ _⟩
              case round =>
                obtain ⟨j, hj, rfl, hJ, hGi⟩ := hrel
                by_cases hlt2 : j < n
                · obtain ⟨b', o', y, rfl, hb', hxj, hc⟩ := (FL.grow HFL.out hJ.out.g).cell c2_len hlt2 (by omega)
                  obtain ⟨p, q⟩ := y
                  have q0 := hc 0 (by omega)
                  have q1 := hc 1 (by omega)
                  simp only [c2, Nat.add_zero, ← Nat.add_assoc, List.getElem?_cons_zero, List.getElem?_cons_succ] at q0 q1
                  have HXJ := Lib.hid hxj
                  have BAD := Lib.hid (fun h => oramB_bad HX.out HXJ.out h)
                  have LEN := Lib.hid (preO_len HX.out HXJ.out)
                  have HJ := Lib.hid hJ.out
                  have HGi := Lib.hid hGi.out
                  have GE := Lib.hid (gbA HJ.out.g (.cells #[.int .i64 p, .int .i64 q] 90))
                  have i2 : (j : Int) < (n : Int) := by omega
                  have e2 := kA (hJ.out.blk.cell 2) (.cells #[.int .i64 p, .int .i64 q] 90)
                  simp at e2
                  clear hc hxj hJ hGi
                  by_cases p0 : 0 ≤ p
                  · obtain ⟨pn, rfl⟩ := Int.eq_ofNat_of_zero_le p0
                    by_cases p1 : pn ≤ 11
                    · have P1 : decide ((pn : Int) ≤ 11) = true := by simp; omega
                      have P0 : decide (0 ≤ (pn : Int)) = true := by simp
                      have PW : (Lit.int .i64 (pn : Int)).wf = true := wf_nat pn (by omega)
                      have MP := Lib.hid (HJ.out.mp.grow (gbA (gbR wr none) (.cells #[.int .i64 pn, .int .i64 q] 90)))
                      have hlk := MP.out.look PW
                      cases hs : seenS m k j pn with
                      | true =>
                        rw [hs] at hlk
                        have HF := Lib.hid (BAD.out fun _ h2 _ => by simp [seenS] at hs; obtain ⟨q', hs⟩ := hs; exact h2 (List.mem_map.2 ⟨_, hs, rfl⟩))
                        have HSE := Lib.hid hs
                        clear hs
                        go_wp2_with go_in
                        go_ret
                        exact ⟨retB HF.out.symm, GE.out⟩
                      | false =>
                        rw [hs] at hlk
                        have HSE := Lib.hid hs
                        clear hs
                        cases hw : wordB q with
                        | false =>
                          have HF := Lib.hid (BAD.out fun h1 _ _ => by have := bkB_is.2 h1; simp [bkB, hw] at this)
                          have HW := Lib.hid hw
                          clear hw
                          go_wp2_with (first | (go_at_call 71; refine (implIsWord_c q _).mono ?_; rintro e w5 ⟨rfl, rfl⟩; rw [HW.out]) | go_in)
                          go_ret
                          exact ⟨retB HF.out.symm, GE.out⟩
                        | true =>
                          have HBK := Lib.hid (show bkOk ((pn : Int), q) from bkB_is.1 (by simp [bkB, hw]; omega))
                          have HW := Lib.hid hw
                          clear hw

                          obtain ⟨bp, op, rfl, hbp, cp⟩ := Ints.cell (k := pn) (Ints.grow HI.out GE.out) (by omega)
                          obtain ⟨z, hz⟩ : ∃ z, m.pos.getD pn 0 = z := ⟨_, rfl⟩
                          rw [hz] at cp
                          have HLF := Lib.hid (leaf_at (m := m) hz)
                          clear hz
                          have ip : (pn : Int) < 12 := by omega
                          cases hp : decide (k ∈ opath z) with
                          | false =>
                            have HF := Lib.hid (BAD.out fun _ _ h3 => by have h4 := h3 (by rw [HN15.out]; exact hk15); rw [HLF.out] at h4; simp at hp; exact hp h4)
                            have HP := Lib.hid hp
                            clear hp
                            go_wp2_with (first | (go_at_call 71; refine (implIsWord_c q _).mono ?_; rintro e w5 ⟨rfl, rfl⟩; rw [HW.out]) | (go_at_call 72; refine (iHolds_c k z _).mono ?_; rintro e w5 ⟨rfl, g5⟩; rw [HP.out]) | go_in)
                            go_ret
                            exact ⟨retB HF.out.symm, gbT GE.out g5⟩
                          | true =>
                            have HO3 : Hid (k < m.bk.length → k ∈ opath (m.leaf pn)) := fun _ => by rw [HLF.out]; simpa using hp
                            have HP := Lib.hid hp
                            clear hp
                            go_wp2_with (first | (go_at_call 71; refine (implIsWord_c q _).mono ?_; rintro e w5 ⟨rfl, rfl⟩; rw [HW.out]) | (go_at_call 72; refine (iHolds_c k z _).mono ?_; rintro e w5 ⟨rfl, g5⟩; rw [HP.out]; have c7 := gbk g5 ((Blk.new wr 90 #[.int .i64 pn, .int .i64 q]).cell 0); have J5 := Lib.hid ((HJ.out.grow (gbA (gbR _ none) _)).grow g5); have g50 := Lib.hid g5) | (at_mapUpdate; refine wp_putB _ rfl _ _ _ rfl bM _ _ J5.out.mp rfl pn rfl PW rfl (by have h1 := LEN.out; have h2 := HZ.out; unfold maxLen; omega) ?_; intro w6 mp6 g6) | go_in)
                            have J6 := Lib.hid (J5.out.put HX.out HXJ.out HBK.out HSE.out HO3.out mp6 g6 hBM hbm0)
                            have G6 := Lib.hid (gbT (gbT HGi.out (gbW (gbA (gbR _ none) _))) (gbT (gbW g50.out) g6))
                            clear mp6 g6 c7
                            go_roundw
                            case rel => exact ⟨j + 1, by omega, by go_num, J6.out, G6.out⟩
                            case measure => simp [intOf]; omega

                    · have HF := Lib.hid (BAD.out fun h1 _ _ => by have := h1.2.1; simp at this; omega)
                      have P1 : decide ((pn : Int) ≤ 11) = false := by simp; omega
                      have P0 : decide (0 ≤ (pn : Int)) = true := by simp
                      go_wp2_with go_in
                      go_ret
                      exact ⟨retB HF.out.symm, GE.out⟩
                  · have HF := Lib.hid (BAD.out fun h1 _ _ => by have := h1.1; simp at this; omega)
                    have P0 : decide (0 ≤ p) = false := by simp; omega
                    go_wp2_with go_in
                    go_ret
                    exact ⟨retB HF.out.symm, GE.out⟩
                · have hjn : j = n := by omega
                  subst hjn
                  have JL := Lib.hid (OkInv.line (by rw [HNX.out]; exact hJ.out) HX.out HRM.out)
                  have GL := Lib.hid (gbT HG2.out hGi.out)
                  clear hJ hGi
                  go_wp2_with fail
                  go_roundw
                  case rel => exact ⟨k + 1, by omega, by go_num, JL.out, GL.out⟩
                  case measure => simp [intOf]; omega
            · have i3 : ¬ (k : Int) < 15 := by omega
              have i4 : ¬ (2 : Int) < (n : Int) ∨ ¬ (k : Int) < 15 := by omega
              
              have HO := Lib.hid hO.out
              have HG2 := Lib.hid hG2.out
              clear hO hG2 hroom i4
              go_wp2_with fail
              obtain ⟨wo, rfl⟩ : ∃ wo : World, wo = wr := ⟨_, rfl⟩
              go_loopw [42] (fun i wi => ∃ j : Nat, j ≤ n ∧ i = .int .i64 j ∧ Hid (OkInv m w B bM #[.slice A0 15 c0, .slice A1 n1 c1, .slice A2 12 c2'] k j wi) ∧ Hid (wo.grownBy wi (some bM))) (fun i _ => n - (intOf i).toNat)
              case atStart => exact ⟨0, Nat.zero_le _, rfl, HO.out, gbR _ _⟩
              case round =>
                obtain ⟨j, hj, rfl, hJ, hGi⟩ := hrel
                by_cases hlt2 : j < n
                · obtain ⟨b', o', y, rfl, hb', hxj, hc⟩ := (FL.grow HFL.out hJ.out.g).cell c2_len hlt2 (by omega)
                  obtain ⟨p, q⟩ := y
                  have q0 := hc 0 (by omega)
                  have q1 := hc 1 (by omega)
                  simp only [c2, Nat.add_zero, ← Nat.add_assoc, List.getElem?_cons_zero, List.getElem?_cons_succ] at q0 q1
                  have HXJ := Lib.hid hxj
                  have BAD := Lib.hid (fun h => oramB_bad HX.out HXJ.out h)
                  have LEN := Lib.hid (preO_len HX.out HXJ.out)
                  have HJ := Lib.hid hJ.out
                  have HGi := Lib.hid hGi.out
                  have GE := Lib.hid (gbA HJ.out.g (.cells #[.int .i64 p, .int .i64 q] 90))
                  have i2 : (j : Int) < (n : Int) := by omega
                  have e2 := kA (hJ.out.blk.cell 2) (.cells #[.int .i64 p, .int .i64 q] 90)
                  simp at e2
                  clear hc hxj hJ hGi
                  by_cases p0 : 0 ≤ p
                  · obtain ⟨pn, rfl⟩ := Int.eq_ofNat_of_zero_le p0
                    by_cases p1 : pn ≤ 11
                    · have P1 : decide ((pn : Int) ≤ 11) = true := by simp; omega
                      have P0 : decide (0 ≤ (pn : Int)) = true := by simp
                      have PW : (Lit.int .i64 (pn : Int)).wf = true := wf_nat pn (by omega)
                      have MP := Lib.hid (HJ.out.mp.grow (gbA (gbR wr none) (.cells #[.int .i64 pn, .int .i64 q] 90)))
                      have hlk := MP.out.look PW
                      cases hs : seenS m k j pn with
                      | true =>
                        rw [hs] at hlk
                        have HF := Lib.hid (BAD.out fun _ h2 _ => by simp [seenS] at hs; obtain ⟨q', hs⟩ := hs; exact h2 (List.mem_map.2 ⟨_, hs, rfl⟩))
                        have HSE := Lib.hid hs
                        clear hs
                        go_wp2_with go_in
                        go_ret
                        exact ⟨retB HF.out.symm, GE.out⟩
                      | false =>
                        rw [hs] at hlk
                        have HSE := Lib.hid hs
                        clear hs
                        cases hw : wordB q with
                        | false =>
                          have HF := Lib.hid (BAD.out fun h1 _ _ => by have := bkB_is.2 h1; simp [bkB, hw] at this)
                          have HW := Lib.hid hw
                          clear hw
                          go_wp2_with (first | (go_at_call 71; refine (implIsWord_c q _).mono ?_; rintro e w5 ⟨rfl, rfl⟩; rw [HW.out]) | go_in)
                          go_ret
                          exact ⟨retB HF.out.symm, GE.out⟩
                        | true =>
                          have HBK := Lib.hid (show bkOk ((pn : Int), q) from bkB_is.1 (by simp [bkB, hw]; omega))
                          have HW := Lib.hid hw
                          clear hw

                          have HO3 : Hid (k < m.bk.length → k ∈ opath (m.leaf pn)) := fun h => by rw [HN15.out] at h; omega
                          have J5 := Lib.hid (HJ.out.grow (gbA (gbR _ none) (.cells #[.int .i64 pn, .int .i64 q] 90)))
                          go_wp2_with (first | (go_at_call 71; refine (implIsWord_c q _).mono ?_; rintro e w5 ⟨rfl, rfl⟩; rw [HW.out]) | (at_mapUpdate; refine wp_putB _ rfl _ _ _ rfl bM _ _ J5.out.mp rfl pn rfl PW rfl (by have h1 := LEN.out; have h2 := HZ.out; unfold maxLen; omega) ?_; intro w6 mp6 g6) | go_in)
                          have J6 := Lib.hid (J5.out.put HX.out HXJ.out HBK.out HSE.out HO3.out mp6 g6 hBM hbm0)
                          have G6 := Lib.hid (gbT (gbT HGi.out (gbW (gbA (gbR _ none) _))) g6)
                          clear mp6 g6
                          go_roundw
                          case rel => exact ⟨j + 1, by omega, by go_num, J6.out, G6.out⟩
                          case measure => simp [intOf]; omega

                    · have HF := Lib.hid (BAD.out fun h1 _ _ => by have := h1.2.1; simp at this; omega)
                      have P1 : decide ((pn : Int) ≤ 11) = false := by simp; omega
                      have P0 : decide (0 ≤ (pn : Int)) = true := by simp
                      go_wp2_with go_in
                      go_ret
                      exact ⟨retB HF.out.symm, GE.out⟩
                  · have HF := Lib.hid (BAD.out fun h1 _ _ => by have := h1.1; simp at this; omega)
                    have P0 : decide (0 ≤ p) = false := by simp; omega
                    go_wp2_with go_in
                    go_ret
                    exact ⟨retB HF.out.symm, GE.out⟩
                · have hjn : j = n := by omega
                  subst hjn
                  have JL := Lib.hid (OkInv.line (by rw [HNX.out]; exact hJ.out) HX.out HRM.out)
                  have GL := Lib.hid (gbT HG2.out hGi.out)
                  clear hJ hGi
                  go_wp2_with fail
                  go_roundw
                  case rel => exact ⟨k + 1, by omega, by go_num, JL.out, GL.out⟩
                  case measure => simp [intOf]; omega
        · have hk16 : k = 16 := by omega
          subst hk16
          have HF : Hid (oramB m = true) := oramB_yes (PreO.done (by rw [HN15.out]; exact hO.out.pre) HN15.out H12.out (leavesB_is HLV.out).2)
          have GW := Lib.hid hO.out.g
          clear hO hG2
          go_wp2_with fail
          go_ret
          exact ⟨retB HF.out.symm, GW.out⟩
  · have HB := Lib.hid (oramB_nb hn)
    obtain ⟨nb, hnb⟩ : ∃ n, m.bk.length = n := ⟨_, rfl⟩
    rw [hnb] at hn hb ⊢
    have d : ((nb : Int) != 15) = true := by simp; omega
    go_enter Try.func32, Try.ntmps32
    go_wp2_with fail
    go_ret
    exact ⟨retB HB.out.symm, gbA (gbR _ _) _⟩
end Go.Proofs.Ythncoohkdmjcaaa
