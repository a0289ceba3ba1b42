/-
  Simplify of the program, for a circuit without inputs.
-/
import Derived.Test.YthdfkiaoahpjpaaMgFnConstantCircuits33
namespace Go.Proofs.Ythdfkiaoahpjpaa
open Go.RowKit
set_option linter.unusedVariables false
set_option linter.unusedSimpArgs false
def TSim (bs : List Int) (gs : List Gat) (L : List Nat) (ts : List Int) (k : Nat) : Prop := ts.length = k ∧ ∀ j, j < k → ∃ t : Nat, ts[j]? = some (t : Int) ∧ L[t]? = some ((wiresTo bs gs k).getD j 0).toNat
theorem TSim.next {bs : List Int} {gs : List Gat} {L M : List Nat} {ts : List Int} {k t : Nat} (h : TSim bs gs L ts k) (ht : (L ++ M)[t]? = some (gv bs (wiresTo bs gs k) (gs.getD k (0, 0, 0))).toNat) : TSim bs gs (L ++ M) (ts ++ [(t : Int)]) (k + 1) := by
  obtain ⟨h1, h2⟩ := h
  refine ⟨by simp [h1], fun j hj => ?_⟩
  have hl := wiresTo_len bs gs k
  have hs : wiresTo bs gs (k + 1) = wiresTo bs gs k ++ [gv bs (wiresTo bs gs k) (gs.getD k (0, 0, 0))] := rfl
  rw [hs]
  generalize gv bs (wiresTo bs gs k) (gs.getD k (0, 0, 0)) = v at *
  by_cases e : j < k
  · obtain ⟨t', q1, q2⟩ := h2 j e
    refine ⟨t', by rw [List.getElem?_append_left (by omega)]; exact q1, ?_⟩
    rw [List.getElem?_append_left (List.getElem?_eq_some_iff.1 q2).1, q2, List.getD_eq_getElem?_getD, List.getD_eq_getElem?_getD, List.getElem?_append_left (by omega)]
  · obtain rfl : j = k := by omega
    refine ⟨t, by rw [List.getElem?_append_right (by omega)]; simp [h1], ?_⟩
    rw [ht, List.getD_eq_getElem?_getD, List.getElem?_append_right (by omega), hl]
    simp
theorem TSim.at_ {bs : List Int} {gs : List Gat} {L : List Nat} {ts : List Int} {k a : Nat} (h : TSim bs gs L ts k) (ha : a < k) : ∃ t : Nat, ts.getD a 0 = (t : Int) ∧ L[t]? = some ((wiresTo bs gs k).getD a 0).toNat := by
  obtain ⟨t, q1, q2⟩ := h.2 a ha
  exact ⟨t, by rw [List.getD_eq_getElem?_getD, q1]; rfl, q2⟩
def BinV (L : List Nat) (lo g mb v : Nat) (w : World) (x : Value) (w' : World) : Prop :=
  ∃ (k : Nat) (M : List Nat), x = .int .i64 k ∧ (L ++ M)[k]? = some v ∧ SimS lo g mb (L ++ M) w' ∧ Chg (GBT 124 lo w) w w'
theorem BinV.grow {L : List Nat} {lo g mb v : Nat} {w w1 w2 : World} {x : Value} (h : BinV L lo g mb v w x w1) (k : w1.grownBy w2 none) : BinV L lo g mb v w x w2 := by
  obtain ⟨t, M, h1, h2, h3, h4⟩ := h
  exact ⟨t, M, h1, h2, h3.grow k, h4.trans (Chg.of k (by simp))⟩
theorem hTS : (124 : TypeId) ≠ 3 := by decide
theorem sim_made (w : World) : SimS w.heap.size (w.heap.size + 1) w.heap.size [] ((w.alloc (.map #[] 0)).alloc (.cells #[.slice none 0 0, .map (some w.heap.size)] 124)) := by
  refine ⟨⟨by omega, by omega⟩, ⟨by simp, by simp⟩, MapG.off (r := none) (MapG.made w) (gbA (gbR _ _) _) (by simp), _, [], Blk.new' _ _ _ _ (by simp), ?_, by simp⟩
  exact plst_own (s := 3) (base := 0) (n := 0) (v := .slice none 0 0) (fun _ => rfl) (by omega) c3_one (World.ownsRow_nil _ _ _ _)
theorem SimS.lo {lo l2 g mb : Nat} {L : List Nat} {w : World} (h : SimS lo g mb L w) (hl : l2 ≤ lo) : SimS l2 g mb L w := by
  obtain ⟨⟨h1, h2⟩, h3, h4, u0, F0, h5, h6, h7⟩ := h
  exact ⟨⟨by omega, by omega⟩, h3, h4, u0, F0, h5, h6, fun x hx => by have := h7 x hx; omega⟩
theorem GBT.blk {T U : TypeId} {lo y : Nat} {w : World} {us : Array Value} (h : GBT T lo w y) (B : Blk w y U us) : U = T ∨ U = 41 := by
  unfold Blk at B
  exact h.2 _ _ _ B
theorem GBT.keep {T U : TypeId} {lo y : Nat} {a b : World} {us : Array Value} (k : Chg (GBT T lo a) a b) (B : Blk a y U us) (h1 : U ≠ T) (h2 : U ≠ 41) : Blk b y U us := B.chg k fun h => (h.blk B).elim h1 h2
theorem PSH.keep {l2 y : Nat} {U : TypeId} {a b : World} {us : Array Value} (k : Chg (PSH l2 a) a b) (B : Blk a y U us) (h1 : U ≠ 3) : Blk b y U us := B.chg k fun ⟨_, cur, hc⟩ => by
  unfold Blk at hc B
  rw [B] at hc
  injection hc with hc
  injection hc with _ hc _
  exact h1 hc
theorem hTC : (28 : TypeId) ≠ 124 := by decide
theorem hTCG : (28 : TypeId) ≠ 41 := by decide
theorem hTCI : (28 : TypeId) ≠ 3 := by decide
def SimR (L : List Nat) (lo g mb v t : Nat) (w w' : World) : Prop := ∃ M : List Nat, (L ++ M)[t]? = some v ∧ SimS lo g mb (L ++ M) w' ∧ Chg (GBT 124 lo w) w w'
theorem SimR.gate {L : List Nat} {lo g mb b t : Nat} {w w' : World} (ht : ixB (addB L b) b = t) (s : SimS lo g mb (addB L b) w') (k : Chg (GBT 124 lo w) w w') : SimR L lo g mb b t w w' := by
  obtain ⟨M, hM⟩ := addB_pre L b
  have := addB_at L b
  rw [ht] at this
  rw [hM] at this s
  exact ⟨M, this, s, k⟩
theorem sof_out (w : World) (x : Value) (hx : x.oneCell' = true) : sofF w.heap.size 28 [CS.pl x, cints []] w.heap.size (w.alloc (.cells #[x, .slice none 0 0] 28)) := by
  have h1 : ownF w.heap.size (cints []) (.slice none 0 0) (w.alloc (.cells #[x, .slice none 0 0] 28)) := ⟨[], cints_own (base := 0) (n := 0) (World.ownsRow_nil _ _ _ _), by simp⟩
  have h2 : (cints []).own (w.alloc (.cells #[x, .slice none 0 0] 28)) [] (.slice none 0 0) := cints_own (base := 0) (n := 0) (World.ownsRow_nil _ _ _ _)
  have h3 : OwnAll (w.alloc (.cells #[x, .slice none 0 0] 28)) [CS.pl x, cints []] [x, .slice none 0 0] [[], []] := OwnAll.cons ((ownAll_pl [x] (by simpa using hx) _).at_ 0 _ _ _ rfl rfl rfl) (OwnAll.cons h2 (OwnAll.nil _) (by simp)) (by simp)
  exact ⟨_, SOF.made (vs := [x, .slice none 0 0]) (Blk.new w _ _) ⟨_, _, rfl, h3, rfl⟩ (by simp), by simp⟩
def OutS (bs : List Int) (m : CM) (L : List Nat) (os : List Int) (k : Nat) : Prop := ∀ j, j < k → ∃ t : Nat, os[j]? = some (t : Int) ∧ L[t]? = some ((wiresTo bs m.gt m.gt.length).getD (m.outs.getD j 0).toNat 0).toNat
theorem OutS.next {bs : List Int} {m : CM} {L : List Nat} {os : List Int} {k t : Nat} (h : OutS bs m L os k) (hl : os.length = k) (ht : L[t]? = some ((wiresTo bs m.gt m.gt.length).getD (m.outs.getD k 0).toNat 0).toNat) : OutS bs m L (os ++ [(t : Int)]) (k + 1) := by
  intro j hj
  by_cases e : j < k
  · obtain ⟨t', q1, q2⟩ := h j e
    exact ⟨t', by rw [List.getElem?_append_left (by omega)]; exact q1, q2⟩
  · obtain rfl : j = k := by omega
    exact ⟨t, by rw [List.getElem?_append_right (by omega)]; simp [hl], ht⟩
def OuS (wr : World) (g3 j tv : Nat) (os : List Int) (c0 : CS) (AO : Option Addr) (cO : Nat) (F1 : List Nat) (v : Value) (w' : World) : Prop :=
  ∃ (A8 : Option Addr) (c8 : Nat), v = .slice A8 (j + 1) c8 ∧ w'.cell? ⟨g3, 1, none⟩ = some (.slice AO j cO) ∧ w'.frozen? ⟨g3, 1, none⟩ = false ∧ sofF g3 28 [c0, cints (os ++ [(tv : Int)])] g3 (w'.setCell ⟨g3, 1, none⟩ (.slice A8 (j + 1) c8)) ∧ Chg (fun y => y ∈ F1) wr w'
def SimpJ (m : CM) (bs : List Int) (w0 : World) (e : Ending) (w' : World) : Prop := ∃ (V : Value) (L : List Nat) (os : List Int), e = .returned V ∧ AggR w' (ccircuit ⟨gt2 L, os⟩) V ∧ ((∀ b ∈ L, b ≤ 1) ∧ L.Nodup) ∧ os.length = m.outs.length ∧
      (∀ j, j < os.length → ∃ t : Nat, os[j]? = some (t : Int) ∧ L[t]? = some ((wiresTo bs m.gt m.gt.length).getD (m.outs.getD j 0).toNat 0).toNat) ∧ w0.grownBy w' none
set_option maxHeartbeats 3000000 in
set_option maxRecDepth 100000 in
theorem implSimplify_yes (m : CM) (v : Value) (bs : List Int) (w0 : World) (h : AggR w0 (ccircuit m) v) (ok : COk m) (hn0 : noIn m.gt) (hbs : ∀ z ∈ bs, bitI z) (hou : m.outs.length ≤ 1000) :
    Calls Try.prog 68 #[v] w0 (SimpJ m bs w0) := by
  have HV := Lib.hid h
  obtain ⟨u0, u1, rfl, h1, h2⟩ := ccircuit_open h
  obtain ⟨A, cA, rfl, hc, hm, hF⟩ := plst_rd (s := 3) (fun _ => rfl) (by omega) h1
  obtain ⟨B, cB, rfl, hcB, hmB, hI⟩ := cints_rd h2
  obtain ⟨n, hn⟩ : ∃ n, m.gt.length = n := ⟨_, rfl⟩
  obtain ⟨q, hq⟩ : ∃ q, m.outs.length = q := ⟨_, rfl⟩
  rw [hn] at HV hF hc ⊢
  rw [hq] at HV hI hcB ⊢
  have HN := Lib.hid hn
  have HQN := Lib.hid hq
  rw [hq] at hou
  have HF := Lib.hid hF
  have HIO := Lib.hid hI
  have OK := Lib.hid ok
  have NI := Lib.hid hn0
  have BSB := Lib.hid hbs
  have hn6 : n ≤ 6000 := by have := ok.few; omega
  clear h h1 h2 hF hI ok hn hq hm hmB hn0 hbs
  obtain ⟨w1, hw1⟩ : ∃ x : World, (w0.alloc (.cells #[.slice A n cA, .slice B q cB] 28)).alloc (.cells #[.slice none 0 0, .slice none 0 0] 28) = x := ⟨_, rfl⟩
  have D1 : Hid (Blk w1 w0.heap.size 28 #[.slice A n cA, .slice B q cB]) := by rw [← hw1]; exact (Blk.new w0 _ _).grow (gbA (gbR _ _) _)
  have E1 : Hid (Blk w1 (w0.heap.size + 1) 28 #[.slice none 0 0, .slice none 0 0]) := by rw [← hw1]; exact Blk.new' _ _ _ _ (by simp)
  have G1 : Hid (w0.grownBy w1 none) := by rw [← hw1]; exact gbA (gbA (gbR _ _) _) _
  have Z1 : Hid (w1.heap.size = w0.heap.size + 2) := by rw [← hw1]; exact Lib.hid (by simp)
  have HW1 := Lib.hid hw1
  clear hw1
  go_enter Try.func68, Try.ntmps68
  go_wp2_with fail
  rw [HW1.out]
  have k0 := D1.out.cell 0
  have k1 := D1.out.cell 1
  simp at k0 k1
  go_wp2_with fail
  clear HW1 k0 k1
  refine (implCircuitOk_c m _ w1 (HV.out.grow G1.out)).mono ?_
  rintro e w2 ⟨rfl, g2⟩
  rw [circB_yes OK.out]
  obtain ⟨w3, hw3⟩ : ∃ x : World, ((w2.alloc (.map #[] 0)).alloc (.cells #[.slice none 0 0, .map (some w2.heap.size)] 124)).alloc (.cells #[] 3) = x := ⟨_, rfl⟩
  have g3 : w2.grownBy w3 none := by rw [← hw3]; exact gbA (gbA (gbA (gbR _ _) _) _) _
  have D2 := Lib.hid ((D1.out.grow g2).grow g3)
  have E2 := Lib.hid ((E1.out.grow g2).grow g3)
  have G2 := Lib.hid (gbT (gbT G1.out g2) g3)
  have hz2 : w0.heap.size + 2 ≤ w2.heap.size := by have := g2.size; have := Z1.out; omega
  have S3 : Hid (SimS w0.heap.size (w2.heap.size + 1) w2.heap.size [] w3) := by
    rw [← hw3]
    exact Lib.hid (((sim_made w2).grow (gbA (gbR _ _) _)).lo (by omega))
  have O3 : Hid (ownF w0.heap.size (cints []) (.slice (some ⟨w2.heap.size + 2, 0, none⟩) 0 0) w3) := by
    rw [← hw3]
    refine Lib.hid (ownF.ints (n := 0) ?_)
    have := World.ownsRow_made (((w2.alloc (.map #[] 0)).alloc (.cells #[.slice none 0 0, .map (some w2.heap.size)] 124))) (base := w0.heap.size) (e := 3) (size := 1) #[] 0 (by simp; omega) (by simp) rfl
    simpa using this
  clear g2 g3 D1 E1 G1 Z1
  have hmm := @run_makeMap Try.prog
  have k0 := D2.out.cell 0
  simp at k0
  go_wp2_with fail
  try rw [hw3]
  clear hmm hw3 k0
  rw [show w2.heap.size + 1 + 1 = w2.heap.size + 2 from rfl]
  obtain ⟨g, hg⟩ : ∃ x, w2.heap.size + 1 = x := ⟨_, rfl⟩
  rw [hg] at S3 ⊢
  obtain ⟨mb, hmb⟩ : ∃ x, w2.heap.size = x := ⟨_, rfl⟩
  rw [hmb] at S3 O3 ⊢
  clear hg hmb hz2
  go_loopw [4, 23] (fun t i wr => ∃ k c1 : Nat, ∃ A1 : Option Addr, ∃ (L : List Nat) (ts : List Int), k ≤ n ∧ i = .int .i64 k ∧ t = .slice A1 k c1 ∧ Hid (TSim bs m.gt L ts k) ∧ Hid (ownF w0.heap.size (cints ts) (.slice A1 k c1) wr) ∧ Hid (SimS w0.heap.size g mb L wr) ∧ Hid (Blk wr w0.heap.size 28 #[.slice A n cA, .slice B q cB]) ∧ Hid (Blk wr (w0.heap.size + 1) 28 #[.slice none 0 0, .slice none 0 0]) ∧ Hid (w0.grownBy wr none)) (fun _ i _ => n - (intOf i).toNat)
  case atStart => exact ⟨0, 0, _, [], [], Nat.zero_le _, rfl, rfl, ⟨rfl, fun j hj => by omega⟩, O3, S3, D2, E2, G2⟩
  case round =>
    clear O3 S3 D2 E2 G2
    obtain ⟨k, c1, A1, L, ts, hk, rfl, rfl, TS, RO, SR, DR, ER, GR⟩ := hrel
    by_cases hlt : k < n
    · have i1 : (k : Int) < (n : Int) := by omega
      obtain ⟨b, o, x, y, z, rfl, hbl, hx, q0, q1, q2⟩ := gates_at (FL.grow HF.out GR.out) hlt
      have hgd : m.gt.getD k (0, 0, 0) = (x, y, z) := by simp [List.getD_eq_getElem?_getD, hx]
      have hgb : gateB k (x, y, z) = true := by have := OK.out.gates k (by rw [HN.out]; exact hlt); unfold gtAt at this; rwa [hgd] at this
      have hni : x ≠ 1 := by have := NI.out k (by rw [HN.out]; exact hlt); rwa [hgd] at this
      have HX := Lib.hid hgd
      have WB := Lib.hid (wires_bit BSB.out OK.out k (by rw [HN.out]; omega))
      clear hx hgd
      obtain ⟨w7, hw7⟩ : ∃ q : World, wr.alloc (.cells #[.int .i64 x, .int .i64 y, .int .i64 z] 41) = q := ⟨_, rfl⟩
      have g7 : wr.grownBy w7 none := by rw [← hw7]; exact gbA (gbR _ _) _
      have BG : Hid (Blk w7 wr.heap.size 41 #[.int .i64 x, .int .i64 y, .int .i64 z]) := by rw [← hw7]; exact Lib.hid (Blk.new wr _ _)
      have O7 := Lib.hid (RO.out.grow g7)
      have S7 := Lib.hid (SR.out.grow g7)
      have D7 := Lib.hid (DR.out.grow g7)
      have E7 := Lib.hid (ER.out.grow g7)
      have G7 := Lib.hid (gbT GR.out g7)
      have hz7 := g7.size
      clear g7 RO SR DR ER GR
      have k0 := BG.out.cell 0
      have k1 := BG.out.cell 1
      have k2 := BG.out.cell 2
      simp at k0 k1 k2
      clear BG
      rcases gateB_kind hgb with ⟨rfl, a, rfl, ha⟩ | ⟨rfl, hy⟩ | ⟨rfl, a, b2, rfl, rfl, ha, hb2⟩ | ⟨rfl, a, b2, rfl, rfl, ha, hb2⟩ | ⟨rfl, a, rfl, ha⟩
      all_goals clear hgb
      · exact absurd rfl hni
      · obtain ⟨yn, rfl⟩ := Int.eq_ofNat_of_zero_le hy.1
        have hy1 : yn ≤ 1 := by have := hy.2; omega
        go_wp2_with fail
        clear k0 k1 k2 hw7 q0 q1 q2
        refine (simGate_c L w0.heap.size g mb yn hy1 w7 S7.out (by have := G7.out.size; omega)).mono ?_
        rintro e w8 ⟨rfl, s8, k8⟩
        obtain ⟨t8, ht8⟩ : ∃ q, ixB (addB L yn) yn = q := ⟨_, rfl⟩
        rw [ht8]
        have hP := SimR.gate ht8 s8 k8
        clear ht8 s8 k8
        obtain ⟨M, hLM, s8, k8⟩ := hP
        have HTS9 : Hid (TSim bs m.gt (L ++ M) (ts ++ [(t8 : Int)]) (k + 1)) := Lib.hid (TS.out.next (by rw [hLM]; rw [HX.out]; simp [gv]))
        have S8 := Lib.hid s8
        have O8 := Lib.hid (GBT.ownF k8 hTS O7.out)
        have D8 := Lib.hid (GBT.keep k8 D7.out hTC hTCG)
        have E8 := Lib.hid (GBT.keep k8 E7.out hTC hTCG)
        have G8 := Lib.hid (GBT.base G7.out k8)
        have LT := Lib.hid TS.out.1
        clear hLM s8 k8 O7 D7 E7 G7 S7 TS
        go_wp2_with (at_builtin; refine wp_pushI w8 w8.heap.size rfl rfl (.tmp 61) (.tmp 63) rfl (t8 : Int) w0.heap.size _ k c1 ts O8.out LT.out rfl rfl (by omega) G8.out.size ?_; intro A8 c8 w9 O9 C9)
        have S9 := Lib.hid (S8.out.chg C9.out (fun y hy => hy.2))
        have D9 := Lib.hid (PSH.keep C9.out D8.out hTCI)
        have E9 := Lib.hid (PSH.keep C9.out E8.out hTCI)
        have G9 := Lib.hid (gbChg G8.out C9.out (fun y hy => hy.1))
        clear C9 S8 O8 D8 E8 G8
        go_roundw
        case rel => exact ⟨k + 1, c8, A8, L ++ M, ts ++ [(t8 : Int)], by omega, by go_num, rfl, HTS9, O9, S9, D9, E9, G9⟩
        case measure => simp [intOf]; omega
      · skip
        have hkp : 0 < k := by omega
        have io : Ints w7 A1 k ts := by
          obtain ⟨F, h1, _⟩ := O7.out
          exact (cints_rd' ((cints _).toRd h1)).2.2.2
        obtain ⟨bo, oo, rfl, -, -⟩ := io.at_ hkp
        have ka := io.val ha
        have kb := io.val hb2
        obtain ⟨ta, hta, hLa⟩ := TS.out.at_ ha
        obtain ⟨tb, htb, hLb⟩ := TS.out.at_ hb2
        rw [hta] at ka
        rw [htb] at kb
        obtain ⟨xa, hxa⟩ : ∃ q, ((wiresTo bs m.gt k).getD a 0).toNat = q := ⟨_, rfl⟩
        obtain ⟨xb, hxb⟩ : ∃ q, ((wiresTo bs m.gt k).getD b2 0).toNat = q := ⟨_, rfl⟩
        rw [hxa] at hLa
        rw [hxb] at hLb
        have HXA := Lib.hid hxa
        have HXB := Lib.hid hxb
        clear hxa hxb
        have HLA := Lib.hid hLa
        have HLB := Lib.hid hLb
        have KA := Lib.hid ka
        have KB := Lib.hid kb
        have K0 := Lib.hid k0
        have K1 := Lib.hid k1
        have K2 := Lib.hid k2
        have ia : (a : Int) < (k : Int) := by omega
        have ib : (b2 : Int) < (k : Int) := by omega
        clear hta htb hLa hLb io ka kb
        go_wp2_with fail
        clear k0 k1 k2 hw7
        refine region_reg6 [onT 38 (isV (.pointer (some ⟨g, 0, none⟩))),
           onT 39 (isV (.pointer (some ⟨wr.heap.size, 0, none⟩))),
           onT 40 (isV (.int .i64 3)),
           onT 41 (isV (.slice (some ⟨bo, oo, none⟩) k c1)),
           onT 42 (isV (.pointer (some ⟨wr.heap.size, 1, none⟩))),
           onT 43 (isV (.int .i64 a)),
           onT 44 (isV (.pointer (some ⟨bo, oo + a, none⟩))),
           onT 45 (isV (.int .i64 ta)),
           onT 46 (isV (.slice (some ⟨bo, oo, none⟩) k c1)),
           onT 47 (isV (.pointer (some ⟨wr.heap.size, 2, none⟩))),
           onT 48 (isV (.int .i64 b2)),
           onT 49 (isV (.pointer (some ⟨bo, oo + b2, none⟩))),
           onT 50 (isV (.int .i64 tb)),
           ⟨[51], fun l w' => BinV L w0.heap.size g mb (xa ^^^ xb) w7 (l.getD 0 undef) w'⟩,
           ⟨[51, 7], fun l w' => l.getD 0 undef = l.getD 1 undef⟩] (tchB 13 (GBT 124 w0.heap.size w7.drew) w7.drew.heap.size) (by kernel_rfl) (by kernel_rfl) (by kernel_rfl) ?_ ?_ ?_
        · exact stF_cons (stableF_on (isV_st _)) (stF_cons (stableF_on (isV_st _)) (stF_cons (stableF_on (isV_st _)) (stF_cons (stableF_on (isV_st _)) (stF_cons (stableF_on (isV_st _)) (stF_cons (stableF_on (isV_st _)) (stF_cons (stableF_on (isV_st _)) (stF_cons (stableF_on (isV_st _)) (stF_cons (stableF_on (isV_st _)) (stF_cons (stableF_on (isV_st _)) (stF_cons (stableF_on (isV_st _)) (stF_cons (stableF_on (isV_st _)) (stF_cons (stableF_on (isV_st _)) (stF_cons (chain_st fun l w1 w2 h hg => BinV.grow h hg) (stF_cons (chain_st fun l w1 w2 h hg => h) stF_nil))))))))))))))
        · simp only [hops6, and_true]
          refine ⟨?_, ?_, ?_, ?_, ?_, ?_, ?_, ?_, ?_, ?_, ?_, ?_, ?_, ?_, ?_⟩
          · intro f w4 hG hpre hold hd
            have hgd := gbB hG hpre (by kernel_rfl)
            have hg4 := gbT (gbD (gbR w7 none)) hgd
            have hz4 := hg4.size
            (try simp [depsF, bindE, List.filter_cons, bd_data, bd_chain, bd_guard, bd_phase, bd_text, bd_gc, fAt, onT_at, isV] at hd)
            first | simp [puts, dsts, Act.put, hd] | simp [puts, dsts, Act.put]
            try clear hd
            go_wp2_with fail
            exact ⟨_, rfl, by simp [fAt, onT_at, upd_some, isV], Or.inl (gbR _ _)⟩
          · intro f w4 hG hpre hold hd
            have hgd := gbB hG hpre (by kernel_rfl)
            have hg4 := gbT (gbD (gbR w7 none)) hgd
            have hz4 := hg4.size
            (try simp [depsF, bindE, List.filter_cons, bd_data, bd_chain, bd_guard, bd_phase, bd_text, bd_gc, fAt, onT_at, isV] at hd)
            first | simp [puts, dsts, Act.put, hd] | simp [puts, dsts, Act.put]
            try clear hd
            go_wp2_with fail
            exact ⟨_, rfl, by simp [fAt, onT_at, upd_some, isV], Or.inl (gbR _ _)⟩
          · intro f w4 hG hpre hold hd
            have hgd := gbB hG hpre (by kernel_rfl)
            have hg4 := gbT (gbD (gbR w7 none)) hgd
            have hz4 := hg4.size
            have k0 := gbk hg4 (K0.out)
            (try simp [depsF, bindE, List.filter_cons, bd_data, bd_chain, bd_guard, bd_phase, bd_text, bd_gc, fAt, onT_at, isV] at hd)
            first | simp [puts, dsts, Act.put, hd] | simp [puts, dsts, Act.put]
            try clear hd
            go_wp2_with fail
            exact ⟨_, rfl, by simp [fAt, onT_at, upd_some, isV], Or.inl (gbR _ _)⟩
          · intro f w4 hG hpre hold hd
            have hgd := gbB hG hpre (by kernel_rfl)
            have hg4 := gbT (gbD (gbR w7 none)) hgd
            have hz4 := hg4.size
            (try simp [depsF, bindE, List.filter_cons, bd_data, bd_chain, bd_guard, bd_phase, bd_text, bd_gc, fAt, onT_at, isV] at hd)
            first | simp [puts, dsts, Act.put, hd] | simp [puts, dsts, Act.put]
            try clear hd
            go_wp2_with fail
            exact ⟨_, rfl, by simp [fAt, onT_at, upd_some, isV], Or.inl (gbR _ _)⟩
          · intro f w4 hG hpre hold hd
            have hgd := gbB hG hpre (by kernel_rfl)
            have hg4 := gbT (gbD (gbR w7 none)) hgd
            have hz4 := hg4.size
            (try simp [depsF, bindE, List.filter_cons, bd_data, bd_chain, bd_guard, bd_phase, bd_text, bd_gc, fAt, onT_at, isV] at hd)
            first | simp [puts, dsts, Act.put, hd] | simp [puts, dsts, Act.put]
            try clear hd
            go_wp2_with fail
            exact ⟨_, rfl, by simp [fAt, onT_at, upd_some, isV], Or.inl (gbR _ _)⟩
          · intro f w4 hG hpre hold hd
            have hgd := gbB hG hpre (by kernel_rfl)
            have hg4 := gbT (gbD (gbR w7 none)) hgd
            have hz4 := hg4.size
            have k1 := gbk hg4 (K1.out)
            (try simp [depsF, bindE, List.filter_cons, bd_data, bd_chain, bd_guard, bd_phase, bd_text, bd_gc, fAt, onT_at, isV] at hd)
            first | simp [puts, dsts, Act.put, hd] | simp [puts, dsts, Act.put]
            try clear hd
            go_wp2_with fail
            exact ⟨_, rfl, by simp [fAt, onT_at, upd_some, isV], Or.inl (gbR _ _)⟩
          · intro f w4 hG hpre hold hd
            have hgd := gbB hG hpre (by kernel_rfl)
            have hg4 := gbT (gbD (gbR w7 none)) hgd
            have hz4 := hg4.size
            (try simp [depsF, bindE, List.filter_cons, bd_data, bd_chain, bd_guard, bd_phase, bd_text, bd_gc, fAt, onT_at, isV] at hd)
            first | simp [puts, dsts, Act.put, hd] | simp [puts, dsts, Act.put]
            try clear hd
            go_wp2_with fail
            exact ⟨_, rfl, by simp [fAt, onT_at, upd_some, isV], Or.inl (gbR _ _)⟩
          · intro f w4 hG hpre hold hd
            have hgd := gbB hG hpre (by kernel_rfl)
            have hg4 := gbT (gbD (gbR w7 none)) hgd
            have hz4 := hg4.size
            have k3 := gbk hg4 (KA.out)
            (try simp [depsF, bindE, List.filter_cons, bd_data, bd_chain, bd_guard, bd_phase, bd_text, bd_gc, fAt, onT_at, isV] at hd)
            first | simp [puts, dsts, Act.put, hd] | simp [puts, dsts, Act.put]
            try clear hd
            go_wp2_with fail
            exact ⟨_, rfl, by simp [fAt, onT_at, upd_some, isV], Or.inl (gbR _ _)⟩
          · intro f w4 hG hpre hold hd
            have hgd := gbB hG hpre (by kernel_rfl)
            have hg4 := gbT (gbD (gbR w7 none)) hgd
            have hz4 := hg4.size
            (try simp [depsF, bindE, List.filter_cons, bd_data, bd_chain, bd_guard, bd_phase, bd_text, bd_gc, fAt, onT_at, isV] at hd)
            first | simp [puts, dsts, Act.put, hd] | simp [puts, dsts, Act.put]
            try clear hd
            go_wp2_with fail
            exact ⟨_, rfl, by simp [fAt, onT_at, upd_some, isV], Or.inl (gbR _ _)⟩
          · intro f w4 hG hpre hold hd
            have hgd := gbB hG hpre (by kernel_rfl)
            have hg4 := gbT (gbD (gbR w7 none)) hgd
            have hz4 := hg4.size
            (try simp [depsF, bindE, List.filter_cons, bd_data, bd_chain, bd_guard, bd_phase, bd_text, bd_gc, fAt, onT_at, isV] at hd)
            first | simp [puts, dsts, Act.put, hd] | simp [puts, dsts, Act.put]
            try clear hd
            go_wp2_with fail
            exact ⟨_, rfl, by simp [fAt, onT_at, upd_some, isV], Or.inl (gbR _ _)⟩
          · intro f w4 hG hpre hold hd
            have hgd := gbB hG hpre (by kernel_rfl)
            have hg4 := gbT (gbD (gbR w7 none)) hgd
            have hz4 := hg4.size
            have k2 := gbk hg4 (K2.out)
            (try simp [depsF, bindE, List.filter_cons, bd_data, bd_chain, bd_guard, bd_phase, bd_text, bd_gc, fAt, onT_at, isV] at hd)
            first | simp [puts, dsts, Act.put, hd] | simp [puts, dsts, Act.put]
            try clear hd
            go_wp2_with fail
            exact ⟨_, rfl, by simp [fAt, onT_at, upd_some, isV], Or.inl (gbR _ _)⟩
          · intro f w4 hG hpre hold hd
            have hgd := gbB hG hpre (by kernel_rfl)
            have hg4 := gbT (gbD (gbR w7 none)) hgd
            have hz4 := hg4.size
            (try simp [depsF, bindE, List.filter_cons, bd_data, bd_chain, bd_guard, bd_phase, bd_text, bd_gc, fAt, onT_at, isV] at hd)
            first | simp [puts, dsts, Act.put, hd] | simp [puts, dsts, Act.put]
            try clear hd
            go_wp2_with fail
            exact ⟨_, rfl, by simp [fAt, onT_at, upd_some, isV], Or.inl (gbR _ _)⟩
          · intro f w4 hG hpre hold hd
            have hgd := gbB hG hpre (by kernel_rfl)
            have hg4 := gbT (gbD (gbR w7 none)) hgd
            have hz4 := hg4.size
            have k4 := gbk hg4 (KB.out)
            (try simp [depsF, bindE, List.filter_cons, bd_data, bd_chain, bd_guard, bd_phase, bd_text, bd_gc, fAt, onT_at, isV] at hd)
            first | simp [puts, dsts, Act.put, hd] | simp [puts, dsts, Act.put]
            try clear hd
            go_wp2_with fail
            exact ⟨_, rfl, by simp [fAt, onT_at, upd_some, isV], Or.inl (gbR _ _)⟩
          · intro f w4 hG hpre hold hd
            have hgd := gbB hG hpre (by kernel_rfl)
            have hg4 := gbT (gbD (gbR w7 none)) hgd
            have hz4 := hg4.size
            (try simp [depsF, bindE, List.filter_cons, bd_data, bd_chain, bd_guard, bd_phase, bd_text, bd_gc, fAt, onT_at, isV] at hd)
            simp [puts, dsts, Act.put, hd]
            clear hd
            go_wp2_with fail
            refine (simXor_c L w0.heap.size g mb ta tb _ _ w4 (S7.out.grow hg4) HLA.out HLB.out (by have := G7.out.size; omega)).mono ?_
            rintro e w6 ⟨t8, M8, rfl, hL8, s8, k8⟩
            have HL8 := Lib.hid hL8
            have S8 := Lib.hid s8
            have K8 := Lib.hid k8
            clear hL8 s8 k8
            go_wp2_with fail
            exact ⟨_, rfl, ⟨t8, M8, rfl, HL8.out, S8.out, GBT.trans (GBT.grow hg4) K8.out⟩, Or.inr ⟨tchB_chg (W := w7.drew) (K := 13) hgd K8.out, ⟨fun _ h => h, fun _ h => h, fun _ h => h, fun _ h => h, fun _ h => h, fun _ h => h, fun _ h => h, fun _ h => h, fun _ h => h, fun _ h => h, fun _ h => h, fun _ h => h, fun _ h => h, fun h _ => absurd rfl h, fun _ h => h, trivial⟩⟩⟩
          · intro f w4 hG hpre hold hd
            clear hd
            simp [puts, dsts, Act.put]
            go_wp2_with fail
            refine ⟨_, rfl, ?_, Or.inl (gbR _ _)⟩
            · show upd f (some 7) (f 51) 51 = upd f (some 7) (f 51) 7
              simp [upd_some]
        intro f w8 hG hd
        have hI := knowsF_get hd (i := 13) rfl
        simp only [puts, dsts, Act.put, List.filterMap_cons, List.filterMap_nil, List.setIfInBounds_toArray, List.set_cons_zero, List.set_cons_succ]
        have h51 : BinV L w0.heap.size g mb _ w7 (f 51) w8 := hI
        have h7 : f 51 = f 7 := knowsF_get hd (i := 14) rfl
        obtain ⟨t8, M8, e8, hL8, s8, k8⟩ := h51
        rw [h7] at e8
        rw [e8]
        have hP : SimR L w0.heap.size g mb _ t8 w7 w8 := ⟨M8, hL8, s8, k8⟩
        clear hI hd e8 h7 hL8 s8 k8 hG
        obtain ⟨M, hLM, s8, k8⟩ := hP
        have HTS9 : Hid (TSim bs m.gt (L ++ M) (ts ++ [(t8 : Int)]) (k + 1)) := Lib.hid (TS.out.next (by rw [hLM]; rw [HX.out, ← HXA.out, ← HXB.out]; simp [gv, bx]))
        have S8 := Lib.hid s8
        have O8 := Lib.hid (GBT.ownF k8 hTS O7.out)
        have D8 := Lib.hid (GBT.keep k8 D7.out hTC hTCG)
        have E8 := Lib.hid (GBT.keep k8 E7.out hTC hTCG)
        have G8 := Lib.hid (GBT.base G7.out k8)
        have LT := Lib.hid TS.out.1
        clear hLM s8 k8 O7 D7 E7 G7 S7 TS
        go_wp2_with (at_builtin; refine wp_pushI w8 w8.heap.size rfl rfl (.tmp 61) (.tmp 63) rfl (t8 : Int) w0.heap.size _ k c1 ts O8.out LT.out rfl rfl (by omega) G8.out.size ?_; intro A8 c8 w9 O9 C9)
        have S9 := Lib.hid (S8.out.chg C9.out (fun y hy => hy.2))
        have D9 := Lib.hid (PSH.keep C9.out D8.out hTCI)
        have E9 := Lib.hid (PSH.keep C9.out E8.out hTCI)
        have G9 := Lib.hid (gbChg G8.out C9.out (fun y hy => hy.1))
        clear C9 S8 O8 D8 E8 G8
        go_roundw
        case rel => exact ⟨k + 1, c8, A8, L ++ M, ts ++ [(t8 : Int)], by omega, by go_num, rfl, HTS9, O9, S9, D9, E9, G9⟩
        case measure => simp [intOf]; omega
      · skip
        have hkp : 0 < k := by omega
        have io : Ints w7 A1 k ts := by
          obtain ⟨F, h1, _⟩ := O7.out
          exact (cints_rd' ((cints _).toRd h1)).2.2.2
        obtain ⟨bo, oo, rfl, -, -⟩ := io.at_ hkp
        have ka := io.val ha
        have kb := io.val hb2
        obtain ⟨ta, hta, hLa⟩ := TS.out.at_ ha
        obtain ⟨tb, htb, hLb⟩ := TS.out.at_ hb2
        rw [hta] at ka
        rw [htb] at kb
        obtain ⟨xa, hxa⟩ : ∃ q, ((wiresTo bs m.gt k).getD a 0).toNat = q := ⟨_, rfl⟩
        obtain ⟨xb, hxb⟩ : ∃ q, ((wiresTo bs m.gt k).getD b2 0).toNat = q := ⟨_, rfl⟩
        rw [hxa] at hLa
        rw [hxb] at hLb
        have HXA := Lib.hid hxa
        have HXB := Lib.hid hxb
        clear hxa hxb
        have HLA := Lib.hid hLa
        have HLB := Lib.hid hLb
        have KA := Lib.hid ka
        have KB := Lib.hid kb
        have K0 := Lib.hid k0
        have K1 := Lib.hid k1
        have K2 := Lib.hid k2
        have ia : (a : Int) < (k : Int) := by omega
        have ib : (b2 : Int) < (k : Int) := by omega
        clear hta htb hLa hLb io ka kb
        go_wp2_with fail
        clear k0 k1 k2 hw7
        refine region_reg6 [onT 38 (isV (.pointer (some ⟨g, 0, none⟩))),
           onT 39 (isV (.pointer (some ⟨wr.heap.size, 0, none⟩))),
           onT 40 (isV (.int .i64 4)),
           onT 41 (isV (.slice (some ⟨bo, oo, none⟩) k c1)),
           onT 42 (isV (.pointer (some ⟨wr.heap.size, 1, none⟩))),
           onT 43 (isV (.int .i64 a)),
           onT 44 (isV (.pointer (some ⟨bo, oo + a, none⟩))),
           onT 45 (isV (.int .i64 ta)),
           onT 46 (isV (.slice (some ⟨bo, oo, none⟩) k c1)),
           onT 47 (isV (.pointer (some ⟨wr.heap.size, 2, none⟩))),
           onT 48 (isV (.int .i64 b2)),
           onT 49 (isV (.pointer (some ⟨bo, oo + b2, none⟩))),
           onT 50 (isV (.int .i64 tb)),
           ⟨[51], fun l w' => BinV L w0.heap.size g mb (xa &&& xb) w7 (l.getD 0 undef) w'⟩,
           ⟨[51, 7], fun l w' => l.getD 0 undef = l.getD 1 undef⟩] (tchB 13 (GBT 124 w0.heap.size w7.drew) w7.drew.heap.size) (by kernel_rfl) (by kernel_rfl) (by kernel_rfl) ?_ ?_ ?_
        · exact stF_cons (stableF_on (isV_st _)) (stF_cons (stableF_on (isV_st _)) (stF_cons (stableF_on (isV_st _)) (stF_cons (stableF_on (isV_st _)) (stF_cons (stableF_on (isV_st _)) (stF_cons (stableF_on (isV_st _)) (stF_cons (stableF_on (isV_st _)) (stF_cons (stableF_on (isV_st _)) (stF_cons (stableF_on (isV_st _)) (stF_cons (stableF_on (isV_st _)) (stF_cons (stableF_on (isV_st _)) (stF_cons (stableF_on (isV_st _)) (stF_cons (stableF_on (isV_st _)) (stF_cons (chain_st fun l w1 w2 h hg => BinV.grow h hg) (stF_cons (chain_st fun l w1 w2 h hg => h) stF_nil))))))))))))))
        · simp only [hops6, and_true]
          refine ⟨?_, ?_, ?_, ?_, ?_, ?_, ?_, ?_, ?_, ?_, ?_, ?_, ?_, ?_, ?_⟩
          · intro f w4 hG hpre hold hd
            have hgd := gbB hG hpre (by kernel_rfl)
            have hg4 := gbT (gbD (gbR w7 none)) hgd
            have hz4 := hg4.size
            (try simp [depsF, bindE, List.filter_cons, bd_data, bd_chain, bd_guard, bd_phase, bd_text, bd_gc, fAt, onT_at, isV] at hd)
            first | simp [puts, dsts, Act.put, hd] | simp [puts, dsts, Act.put]
            try clear hd
            go_wp2_with fail
            exact ⟨_, rfl, by simp [fAt, onT_at, upd_some, isV], Or.inl (gbR _ _)⟩
          · intro f w4 hG hpre hold hd
            have hgd := gbB hG hpre (by kernel_rfl)
            have hg4 := gbT (gbD (gbR w7 none)) hgd
            have hz4 := hg4.size
            (try simp [depsF, bindE, List.filter_cons, bd_data, bd_chain, bd_guard, bd_phase, bd_text, bd_gc, fAt, onT_at, isV] at hd)
            first | simp [puts, dsts, Act.put, hd] | simp [puts, dsts, Act.put]
            try clear hd
            go_wp2_with fail
            exact ⟨_, rfl, by simp [fAt, onT_at, upd_some, isV], Or.inl (gbR _ _)⟩
          · intro f w4 hG hpre hold hd
            have hgd := gbB hG hpre (by kernel_rfl)
            have hg4 := gbT (gbD (gbR w7 none)) hgd
            have hz4 := hg4.size
            have k0 := gbk hg4 (K0.out)
            (try simp [depsF, bindE, List.filter_cons, bd_data, bd_chain, bd_guard, bd_phase, bd_text, bd_gc, fAt, onT_at, isV] at hd)
            first | simp [puts, dsts, Act.put, hd] | simp [puts, dsts, Act.put]
            try clear hd
            go_wp2_with fail
            exact ⟨_, rfl, by simp [fAt, onT_at, upd_some, isV], Or.inl (gbR _ _)⟩
          · intro f w4 hG hpre hold hd
            have hgd := gbB hG hpre (by kernel_rfl)
            have hg4 := gbT (gbD (gbR w7 none)) hgd
            have hz4 := hg4.size
            (try simp [depsF, bindE, List.filter_cons, bd_data, bd_chain, bd_guard, bd_phase, bd_text, bd_gc, fAt, onT_at, isV] at hd)
            first | simp [puts, dsts, Act.put, hd] | simp [puts, dsts, Act.put]
            try clear hd
            go_wp2_with fail
            exact ⟨_, rfl, by simp [fAt, onT_at, upd_some, isV], Or.inl (gbR _ _)⟩
          · intro f w4 hG hpre hold hd
            have hgd := gbB hG hpre (by kernel_rfl)
            have hg4 := gbT (gbD (gbR w7 none)) hgd
            have hz4 := hg4.size
            (try simp [depsF, bindE, List.filter_cons, bd_data, bd_chain, bd_guard, bd_phase, bd_text, bd_gc, fAt, onT_at, isV] at hd)
            first | simp [puts, dsts, Act.put, hd] | simp [puts, dsts, Act.put]
            try clear hd
            go_wp2_with fail
            exact ⟨_, rfl, by simp [fAt, onT_at, upd_some, isV], Or.inl (gbR _ _)⟩
          · intro f w4 hG hpre hold hd
            have hgd := gbB hG hpre (by kernel_rfl)
            have hg4 := gbT (gbD (gbR w7 none)) hgd
            have hz4 := hg4.size
            have k1 := gbk hg4 (K1.out)
            (try simp [depsF, bindE, List.filter_cons, bd_data, bd_chain, bd_guard, bd_phase, bd_text, bd_gc, fAt, onT_at, isV] at hd)
            first | simp [puts, dsts, Act.put, hd] | simp [puts, dsts, Act.put]
            try clear hd
            go_wp2_with fail
            exact ⟨_, rfl, by simp [fAt, onT_at, upd_some, isV], Or.inl (gbR _ _)⟩
          · intro f w4 hG hpre hold hd
            have hgd := gbB hG hpre (by kernel_rfl)
            have hg4 := gbT (gbD (gbR w7 none)) hgd
            have hz4 := hg4.size
            (try simp [depsF, bindE, List.filter_cons, bd_data, bd_chain, bd_guard, bd_phase, bd_text, bd_gc, fAt, onT_at, isV] at hd)
            first | simp [puts, dsts, Act.put, hd] | simp [puts, dsts, Act.put]
            try clear hd
            go_wp2_with fail
            exact ⟨_, rfl, by simp [fAt, onT_at, upd_some, isV], Or.inl (gbR _ _)⟩
          · intro f w4 hG hpre hold hd
            have hgd := gbB hG hpre (by kernel_rfl)
            have hg4 := gbT (gbD (gbR w7 none)) hgd
            have hz4 := hg4.size
            have k3 := gbk hg4 (KA.out)
            (try simp [depsF, bindE, List.filter_cons, bd_data, bd_chain, bd_guard, bd_phase, bd_text, bd_gc, fAt, onT_at, isV] at hd)
            first | simp [puts, dsts, Act.put, hd] | simp [puts, dsts, Act.put]
            try clear hd
            go_wp2_with fail
            exact ⟨_, rfl, by simp [fAt, onT_at, upd_some, isV], Or.inl (gbR _ _)⟩
          · intro f w4 hG hpre hold hd
            have hgd := gbB hG hpre (by kernel_rfl)
            have hg4 := gbT (gbD (gbR w7 none)) hgd
            have hz4 := hg4.size
            (try simp [depsF, bindE, List.filter_cons, bd_data, bd_chain, bd_guard, bd_phase, bd_text, bd_gc, fAt, onT_at, isV] at hd)
            first | simp [puts, dsts, Act.put, hd] | simp [puts, dsts, Act.put]
            try clear hd
            go_wp2_with fail
            exact ⟨_, rfl, by simp [fAt, onT_at, upd_some, isV], Or.inl (gbR _ _)⟩
          · intro f w4 hG hpre hold hd
            have hgd := gbB hG hpre (by kernel_rfl)
            have hg4 := gbT (gbD (gbR w7 none)) hgd
            have hz4 := hg4.size
            (try simp [depsF, bindE, List.filter_cons, bd_data, bd_chain, bd_guard, bd_phase, bd_text, bd_gc, fAt, onT_at, isV] at hd)
            first | simp [puts, dsts, Act.put, hd] | simp [puts, dsts, Act.put]
            try clear hd
            go_wp2_with fail
            exact ⟨_, rfl, by simp [fAt, onT_at, upd_some, isV], Or.inl (gbR _ _)⟩
          · intro f w4 hG hpre hold hd
            have hgd := gbB hG hpre (by kernel_rfl)
            have hg4 := gbT (gbD (gbR w7 none)) hgd
            have hz4 := hg4.size
            have k2 := gbk hg4 (K2.out)
            (try simp [depsF, bindE, List.filter_cons, bd_data, bd_chain, bd_guard, bd_phase, bd_text, bd_gc, fAt, onT_at, isV] at hd)
            first | simp [puts, dsts, Act.put, hd] | simp [puts, dsts, Act.put]
            try clear hd
            go_wp2_with fail
            exact ⟨_, rfl, by simp [fAt, onT_at, upd_some, isV], Or.inl (gbR _ _)⟩
          · intro f w4 hG hpre hold hd
            have hgd := gbB hG hpre (by kernel_rfl)
            have hg4 := gbT (gbD (gbR w7 none)) hgd
            have hz4 := hg4.size
            (try simp [depsF, bindE, List.filter_cons, bd_data, bd_chain, bd_guard, bd_phase, bd_text, bd_gc, fAt, onT_at, isV] at hd)
            first | simp [puts, dsts, Act.put, hd] | simp [puts, dsts, Act.put]
            try clear hd
            go_wp2_with fail
            exact ⟨_, rfl, by simp [fAt, onT_at, upd_some, isV], Or.inl (gbR _ _)⟩
          · intro f w4 hG hpre hold hd
            have hgd := gbB hG hpre (by kernel_rfl)
            have hg4 := gbT (gbD (gbR w7 none)) hgd
            have hz4 := hg4.size
            have k4 := gbk hg4 (KB.out)
            (try simp [depsF, bindE, List.filter_cons, bd_data, bd_chain, bd_guard, bd_phase, bd_text, bd_gc, fAt, onT_at, isV] at hd)
            first | simp [puts, dsts, Act.put, hd] | simp [puts, dsts, Act.put]
            try clear hd
            go_wp2_with fail
            exact ⟨_, rfl, by simp [fAt, onT_at, upd_some, isV], Or.inl (gbR _ _)⟩
          · intro f w4 hG hpre hold hd
            have hgd := gbB hG hpre (by kernel_rfl)
            have hg4 := gbT (gbD (gbR w7 none)) hgd
            have hz4 := hg4.size
            (try simp [depsF, bindE, List.filter_cons, bd_data, bd_chain, bd_guard, bd_phase, bd_text, bd_gc, fAt, onT_at, isV] at hd)
            simp [puts, dsts, Act.put, hd]
            clear hd
            go_wp2_with fail
            refine (simAnd_c L w0.heap.size g mb ta tb _ _ w4 (S7.out.grow hg4) HLA.out HLB.out (by have := G7.out.size; omega)).mono ?_
            rintro e w6 ⟨t8, M8, rfl, hL8, s8, k8⟩
            have HL8 := Lib.hid hL8
            have S8 := Lib.hid s8
            have K8 := Lib.hid k8
            clear hL8 s8 k8
            go_wp2_with fail
            exact ⟨_, rfl, ⟨t8, M8, rfl, HL8.out, S8.out, GBT.trans (GBT.grow hg4) K8.out⟩, Or.inr ⟨tchB_chg (W := w7.drew) (K := 13) hgd K8.out, ⟨fun _ h => h, fun _ h => h, fun _ h => h, fun _ h => h, fun _ h => h, fun _ h => h, fun _ h => h, fun _ h => h, fun _ h => h, fun _ h => h, fun _ h => h, fun _ h => h, fun _ h => h, fun h _ => absurd rfl h, fun _ h => h, trivial⟩⟩⟩
          · intro f w4 hG hpre hold hd
            clear hd
            simp [puts, dsts, Act.put]
            go_wp2_with fail
            refine ⟨_, rfl, ?_, Or.inl (gbR _ _)⟩
            · show upd f (some 7) (f 51) 51 = upd f (some 7) (f 51) 7
              simp [upd_some]
        intro f w8 hG hd
        have hI := knowsF_get hd (i := 13) rfl
        simp only [puts, dsts, Act.put, List.filterMap_cons, List.filterMap_nil, List.setIfInBounds_toArray, List.set_cons_zero, List.set_cons_succ]
        have h51 : BinV L w0.heap.size g mb _ w7 (f 51) w8 := hI
        have h7 : f 51 = f 7 := knowsF_get hd (i := 14) rfl
        obtain ⟨t8, M8, e8, hL8, s8, k8⟩ := h51
        rw [h7] at e8
        rw [e8]
        have hP : SimR L w0.heap.size g mb _ t8 w7 w8 := ⟨M8, hL8, s8, k8⟩
        clear hI hd e8 h7 hL8 s8 k8 hG
        obtain ⟨M, hLM, s8, k8⟩ := hP
        have HTS9 : Hid (TSim bs m.gt (L ++ M) (ts ++ [(t8 : Int)]) (k + 1)) := Lib.hid (TS.out.next (by rw [hLM]; rw [HX.out, ← HXA.out, ← HXB.out]; simp [gv, ba]))
        have S8 := Lib.hid s8
        have O8 := Lib.hid (GBT.ownF k8 hTS O7.out)
        have D8 := Lib.hid (GBT.keep k8 D7.out hTC hTCG)
        have E8 := Lib.hid (GBT.keep k8 E7.out hTC hTCG)
        have G8 := Lib.hid (GBT.base G7.out k8)
        have LT := Lib.hid TS.out.1
        clear hLM s8 k8 O7 D7 E7 G7 S7 TS
        go_wp2_with (at_builtin; refine wp_pushI w8 w8.heap.size rfl rfl (.tmp 61) (.tmp 63) rfl (t8 : Int) w0.heap.size _ k c1 ts O8.out LT.out rfl rfl (by omega) G8.out.size ?_; intro A8 c8 w9 O9 C9)
        have S9 := Lib.hid (S8.out.chg C9.out (fun y hy => hy.2))
        have D9 := Lib.hid (PSH.keep C9.out D8.out hTCI)
        have E9 := Lib.hid (PSH.keep C9.out E8.out hTCI)
        have G9 := Lib.hid (gbChg G8.out C9.out (fun y hy => hy.1))
        clear C9 S8 O8 D8 E8 G8
        go_roundw
        case rel => exact ⟨k + 1, c8, A8, L ++ M, ts ++ [(t8 : Int)], by omega, by go_num, rfl, HTS9, O9, S9, D9, E9, G9⟩
        case measure => simp [intOf]; omega
      · have hkp : 0 < k := by omega
        have io : Ints w7 A1 k ts := by
          obtain ⟨F, h1, _⟩ := O7.out
          exact (cints_rd' ((cints _).toRd h1)).2.2.2
        obtain ⟨bo, oo, rfl, -, -⟩ := io.at_ hkp
        have ka := io.val ha
        obtain ⟨ta, hta, hLa⟩ := TS.out.at_ ha
        rw [hta] at ka
        have HLA := Lib.hid hLa
        have ia : (a : Int) < (k : Int) := by omega
        have wa := getD_bit WB.out a
        clear hta hLa io
        obtain ⟨va, hva⟩ : ∃ q, (wiresTo bs m.gt k).getD a 0 = q := ⟨_, rfl⟩
        rw [hva] at HLA wa
        have HVA := Lib.hid hva
        clear hva
        go_wp2_with fail
        clear k0 k1 k2 hw7 q0 q1 q2 ka
        refine (simNeg_c L w0.heap.size g mb ta va.toNat w7 S7.out HLA.out (by have := G7.out.size; omega)).mono ?_
        rintro e w8 ⟨rfl, s8, k8⟩
        obtain ⟨t8, ht8⟩ : ∃ q, ixB (addB L (1 - va.toNat)) (1 - va.toNat) = q := ⟨_, rfl⟩
        rw [ht8]
        have hP := SimR.gate ht8 s8 k8
        clear ht8 s8 k8
        obtain ⟨M, hLM, s8, k8⟩ := hP
        have HTS9 : Hid (TSim bs m.gt (L ++ M) (ts ++ [(t8 : Int)]) (k + 1)) := Lib.hid (TS.out.next (by rw [hLM]; rw [HX.out]; have h5 : 0 ≤ va := wa.1; have h6 : va ≤ 1 := wa.2; have h7 := HVA.out; rw [List.getD_eq_getElem?_getD] at h7; simp only [gv]; simp [h7]; omega))
        have S8 := Lib.hid s8
        have O8 := Lib.hid (GBT.ownF k8 hTS O7.out)
        have D8 := Lib.hid (GBT.keep k8 D7.out hTC hTCG)
        have E8 := Lib.hid (GBT.keep k8 E7.out hTC hTCG)
        have G8 := Lib.hid (GBT.base G7.out k8)
        have LT := Lib.hid TS.out.1
        clear hLM s8 k8 O7 D7 E7 G7 S7 TS
        go_wp2_with (at_builtin; refine wp_pushI w8 w8.heap.size rfl rfl (.tmp 61) (.tmp 63) rfl (t8 : Int) w0.heap.size _ k c1 ts O8.out LT.out rfl rfl (by omega) G8.out.size ?_; intro A8 c8 w9 O9 C9)
        have S9 := Lib.hid (S8.out.chg C9.out (fun y hy => hy.2))
        have D9 := Lib.hid (PSH.keep C9.out D8.out hTCI)
        have E9 := Lib.hid (PSH.keep C9.out E8.out hTCI)
        have G9 := Lib.hid (gbChg G8.out C9.out (fun y hy => hy.1))
        clear C9 S8 O8 D8 E8 G8
        go_roundw
        case rel => exact ⟨k + 1, c8, A8, L ++ M, ts ++ [(t8 : Int)], by omega, by go_num, rfl, HTS9, O9, S9, D9, E9, G9⟩
        case measure => simp [intOf]; omega
    · have hkn : k = n := by omega
      subst hkn
      have i1 : ¬ (k : Int) < (k : Int) := by omega
      have hL2 := short2 SR.out.2.1.1 SR.out.2.1.2
      obtain ⟨hg0, hLL, _, ug, FG, hbg, og, lg⟩ := SR.out
      obtain ⟨AG, cG, e0, -, -⟩ := plst_row (s := 3) (fun _ => rfl) (by omega) og
      rw [gt2_len] at e0
      subst e0
      have gc0 := hbg.cell 0
      simp at gc0
      have HLL := Lib.hid hLL
      obtain ⟨w5, hw5⟩ : ∃ x : World, wr.alloc (.cells #[.slice AG L.length cG, .slice none 0 0] 28) = x := ⟨_, rfl⟩
      have g5 : wr.grownBy w5 none := by rw [← hw5]; exact gbA (gbR _ _) _
      have hz5 : w5.heap.size = wr.heap.size + 1 := by rw [← hw5]; simp
      have P5 : Hid (sofF wr.heap.size 28 [CS.pl (.slice AG L.length cG), cints []] wr.heap.size w5) := by rw [← hw5]; exact Lib.hid (sof_out wr _ (by simp [Value.oneCell']))
      have dk1 := (DR.out.grow g5).cell 1
      simp at dk1
      rw [← hw5] at dk1
      have HW5 := Lib.hid hw5
      clear hw5
      have OG := Lib.hid og
      have G5 := Lib.hid (gbR wr none)
      have C5 : Hid (wr.grownBy w5 none) := Lib.hid g5
      clear hg0 hLL hbg og lg SR hlt g5
      go_wp2_with fail
      rw [HW5.out]
      clear HW5 dk1 gc0
      obtain ⟨g3, hg3⟩ : ∃ x, wr.heap.size = x := ⟨_, rfl⟩
      rw [hg3] at P5 ⊢
      have HG3 := Lib.hid hg3
      have hg3w : wr.heap.size ≤ g3 := by omega
      have hz5' : g3 < w5.heap.size := by omega
      clear hg3 hz5
      obtain ⟨wo, hwo⟩ : ∃ wo : World, wo = wr := ⟨_, rfl⟩
      rw [← hwo] at RO ER GR DR OG G5 C5 HG3 hg3w
      clear hwo
      go_loopw [74] (fun i wr => ∃ (j : Nat) (os : List Int), j ≤ q ∧ i = .int .i64 j ∧ os.length = j ∧ Hid (OutS bs m L os j) ∧ Hid (sofF g3 28 [CS.pl (.slice AG L.length cG), cints os] g3 wr) ∧ Hid (wo.grownBy wr none)) (fun i _ => q - (intOf i).toNat)
      case atStart => exact ⟨0, [], Nat.zero_le _, rfl, rfl, fun j hj => by omega, P5, C5⟩
      case round =>
        clear P5 C5
        obtain ⟨j, os, hj, rfl, hos, HOS, HP, HG⟩ := hrel
        have HLEN := Lib.hid hos
        clear hos
        by_cases hlt : j < q
        · have i2 : (j : Int) < (q : Int) := by omega
          obtain ⟨bq, oq, rfl, hbq, hcc⟩ := (HIO.out.grow (gbT GR.out HG.out)).at_ (by omega)
          have cq := hcc j hlt
          have hob := OK.out.outs (m.outs.getD j 0) (by rw [getI _ _ (by rw [HQN.out]; exact hlt)]; exact List.getElem_mem _)
          obtain ⟨on, hon⟩ : ∃ q, m.outs.getD j 0 = q := ⟨_, rfl⟩
          rw [hon] at cq hob
          unfold inB at hob
          simp at hob
          rw [HN.out] at hob
          obtain ⟨ov, rfl⟩ := Int.eq_ofNat_of_zero_le hob.1
          have hov : ov < k := by omega
          have HON := Lib.hid hon
          obtain ⟨tv, htv, hLt⟩ := TS.out.at_ hov
          have io : Ints wr A1 k ts := by
            obtain ⟨F, h1, _⟩ := RO.out.grow HG.out
            exact (cints_rd' ((cints _).toRd h1)).2.2.2
          have hlow : Hid (∀ b, A1 = some b → b.block < g3) := Lib.hid (fun b hb => by
            obtain ⟨F, h1, _⟩ := RO.out
            have io0 := (cints_rd' ((cints _).toRd h1)).2.2.2
            obtain ⟨b1, o1, e1, e2, _⟩ := io0.at_ (by omega)
            rw [e1] at hb
            injection hb with hb
            subst hb
            rw [HG3.out] at e2
            exact e2)
          obtain ⟨bt, ot, rfl, -, -⟩ := io.at_ (by omega)
          have kt := io.val hov
          rw [htv] at kt
          have hbt := hlow.out _ rfl
          have KT := Lib.hid kt
          have HLT := Lib.hid hLt
          have iv : (ov : Int) < (k : Int) := by omega
          obtain ⟨AO, cO, F1, pc, ho1, ⟨hf1, hf2, hf3⟩, hpu⟩ := sof_plst (i := 1) (s := 1) (e := 3) (f := fiC) (xs := os) (fun _ => rfl) (by omega) HP.out rfl HLEN.out (Nat.le_refl _)
          have PC := Lib.hid pc
          have HO1 := Lib.hid ho1
          have HPU := Lib.hid hpu
          have HF1 := Lib.hid hf1
          have HF2 := Lib.hid hf2
          have hzr := HG.out.size
          clear pc ho1 hpu hf1 hf2 HP hcc hon htv hLt io kt hob hlow
          go_wp2_with fail
          clear cq
          refine region_chain [.rd (.pointer (some ⟨g3, 1, none⟩)), .rd (.slice AO j cO), .rd (.slice (some ⟨bt, ot, none⟩) k c1), .rd (.int .i64 ov), .rd (.pointer (some ⟨bt, ot + ov, none⟩)), .rd (.int .i64 tv), .ch, .ch, .rd (.pointer (some ⟨g3, 1, none⟩)), .ch] (fun y => y ∈ F1)
            [⟨[], fun _ w' => w' = wr.drew⟩,
             ⟨[84], fun l w' => w' = wr.drew.alloc (.cells #[.int .i64 tv] 3) ∧ l.getD 0 undef = .slice (some ⟨wr.heap.size, 0, none⟩) 1 1⟩,
             ⟨[85], fun l w' => OuS wr g3 j tv os (CS.pl (.slice AG L.length cG)) AO cO F1 (l.getD 0 undef) w'⟩,
             ⟨[], fun _ w' => sofF g3 28 [CS.pl (.slice AG L.length cG), cints (os ++ [(tv : Int)])] g3 w' ∧ Chg (fun y => g3 ≤ y) wr w'⟩]
            (by kernel_rfl) (by kernel_rfl) (by kernel_rfl) 3 (by kernel_rfl) (by simp only [flOk, and_true]) rfl rfl ?_ ?_
          · simp only [hopsK, hopK, Kd.next, and_true]
            refine ⟨?_, ?_, ?_, ?_, ?_, ?_, ?_, ?_, ?_, ?_⟩
            · intro f w4 hG hd
              (try simp [depsC, dstAt, kAt, bindE, List.filter_cons, bd_data, bd_chain, bd_guard, bd_phase, bd_text, bd_gc] at hd)
              (first | simp [puts, dsts, Act.put, hd] | simp [puts, dsts, Act.put])
              clear hd
              go_wp2_with fail
              exact ⟨rfl, rfl⟩
            · intro f w4 hG hd
              have b5 := hG.cell (gbk (gbD (gbR wr none)) PC.out) (by simp; omega) HF2.out
              (try simp [depsC, dstAt, kAt, bindE, List.filter_cons, bd_data, bd_chain, bd_guard, bd_phase, bd_text, bd_gc] at hd)
              (first | simp [puts, dsts, Act.put, hd] | simp [puts, dsts, Act.put])
              clear hd
              go_wp2_with fail
              exact ⟨rfl, rfl⟩
            · intro f w4 hG hd
              (try simp [depsC, dstAt, kAt, bindE, List.filter_cons, bd_data, bd_chain, bd_guard, bd_phase, bd_text, bd_gc] at hd)
              (first | simp [puts, dsts, Act.put, hd] | simp [puts, dsts, Act.put])
              clear hd
              go_wp2_with fail
              exact ⟨rfl, rfl⟩
            · intro f w4 hG hd
              (try simp [depsC, dstAt, kAt, bindE, List.filter_cons, bd_data, bd_chain, bd_guard, bd_phase, bd_text, bd_gc] at hd)
              (first | simp [puts, dsts, Act.put, hd] | simp [puts, dsts, Act.put])
              clear hd
              go_wp2_with fail
              exact ⟨rfl, rfl⟩
            · intro f w4 hG hd
              (try simp [depsC, dstAt, kAt, bindE, List.filter_cons, bd_data, bd_chain, bd_guard, bd_phase, bd_text, bd_gc] at hd)
              (first | simp [puts, dsts, Act.put, hd] | simp [puts, dsts, Act.put])
              clear hd
              go_wp2_with fail
              exact ⟨rfl, rfl⟩
            · intro f w4 hG hd
              have b5 := hG.cell (gbk (gbD (gbR wr none)) KT.out) (by simp; omega) (fun e => by have := (HF1.out _ e).1; omega)
              (try simp [depsC, dstAt, kAt, bindE, List.filter_cons, bd_data, bd_chain, bd_guard, bd_phase, bd_text, bd_gc] at hd)
              (first | simp [puts, dsts, Act.put, hd] | simp [puts, dsts, Act.put])
              clear hd
              go_wp2_with fail
              exact ⟨rfl, rfl⟩
            · intro f w4 hG hI hd
              have hI : w4 = wr.drew := hI
              subst hI
              (try simp [depsC, dstAt, kAt, bindE, List.filter_cons, bd_data, bd_chain, bd_guard, bd_phase, bd_text, bd_gc] at hd)
              (first | simp [puts, dsts, Act.put, hd] | simp [puts, dsts, Act.put])
              clear hd
              go_wp2_with fail
              exact ⟨_, rfl, ⟨rfl, rfl⟩, ⟨Chg.of (gbA (gbR _ none) _) (by simp), by simp [keepsC, dstAt]⟩⟩
            · intro f w4 hG hI hd
              obtain ⟨rfl, e84⟩ := hI
              have e84 : f 84 = .slice (some ⟨wr.heap.size, 0, none⟩) 1 1 := e84
              (try simp [depsC, dstAt, kAt, bindE, List.filter_cons, bd_data, bd_chain, bd_guard, bd_phase, bd_text, bd_gc] at hd)
              simp [puts, dsts, Act.put, hd, e84]
              clear hd e84
              refine wp_pushG wr.drew wr.heap.size rfl rfl (.tmp 79) (.tmp 84) rfl (tv : Int) AO j cO os F1 (own_growK _ HO1.out (gbD (gbR wr none))) HLEN.out rfl rfl (by omega) ?_
              intro A8 c8 w9 F8 O8 C8 S8
              go_wp2_with fail
              have C9 := (Chg.of (S := fun y => y ∈ F1) (gbA (gbD (gbR wr none)) (.cells #[.int .i64 tv] 3)) (by simp)).trans C8.out
              obtain ⟨r1, r2, r3⟩ := HPU.out wr w9 A8 (j + 1) c8 F8 _ (Chg.refl _ _) O8.out C9 S8.out
              exact ⟨_, rfl, ⟨A8, c8, rfl, r1, r2, r3, C9⟩, ⟨C8.out, by simp [keepsC, dstAt]⟩⟩
            · intro f w4 hG hd
              (try simp [depsC, dstAt, kAt, bindE, List.filter_cons, bd_data, bd_chain, bd_guard, bd_phase, bd_text, bd_gc] at hd)
              (first | simp [puts, dsts, Act.put, hd] | simp [puts, dsts, Act.put])
              clear hd
              go_wp2_with fail
              exact ⟨rfl, rfl⟩
            · intro f w4 hG hI hd
              obtain ⟨A8, c8, e85, r1, r2, r3, r4⟩ := hI
              have e85 : f 85 = .slice A8 (j + 1) c8 := e85
              have CS9 := chgS w4 g3 1 (.slice A8 (j + 1) c8)
              have H9 : Chg (fun y => g3 ≤ y) wr (w4.setCell ⟨g3, 1, none⟩ (.slice A8 (j + 1) c8)) := (r4.mono fun y hy => (HF1.out y hy).1).trans (CS9.mono fun y hy => by omega)
              have HR3 := Lib.hid r3
              have HH9 := Lib.hid H9
              clear r3 r4 CS9 H9
              (try simp [depsC, dstAt, kAt, bindE, List.filter_cons, bd_data, bd_chain, bd_guard, bd_phase, bd_text, bd_gc] at hd)
              simp [puts, dsts, Act.put, hd, e85]
              clear hd
              go_wp2_with fail
              exact ⟨rfl, .bool false, HR3.out, HH9.out⟩
          intro f w8 hI hd
          simp only [puts, dsts, Act.put, List.filterMap_cons, List.filterMap_nil, List.setIfInBounds_toArray, List.set_cons_zero, List.set_cons_succ]
          obtain ⟨hP8, hch⟩ := hI
          have P8 := Lib.hid hP8
          have G8 := Lib.hid (gbC HG.out hch (fun y hy => .inr (by omega)))
          have OS8 : Hid (OutS bs m L (os ++ [(tv : Int)]) (j + 1)) := Lib.hid (HOS.out.next HLEN.out (by rw [HLT.out, HON.out]; simp [HN.out]))
          have LEN8 : Hid ((os ++ [(tv : Int)]).length = j + 1) := Lib.hid (by simp [HLEN.out])
          clear hP8 hch hd
          go_wp2_with fail
          go_roundw
          case rel => exact ⟨j + 1, os ++ [(tv : Int)], by clear i2; omega, by go_num, LEN8.out, OS8, P8, G8⟩
          case measure => simp [intOf]; omega
        · have hjq : j = q := by omega
          subst hjq
          have i2 : ¬ (j : Int) < (j : Int) := by omega
          have hp := HP.out
          obtain ⟨F, hSF, hF⟩ := hp
          obtain ⟨vs, B9, ag⟩ := hSF.agg
          obtain ⟨vs2, Fs2, e, hAll, _⟩ := ag
          obtain ⟨v0, vs0, X0, Y0, e1, _, ⟨_, hv0, _⟩, hAll, _⟩ := OwnAll.head hAll
          obtain ⟨v1, vs1, X1, Y1, e2, _, ho1, hAll, _⟩ := OwnAll.head hAll
          obtain ⟨e3, _⟩ := OwnAll.none hAll
          rw [e2, e3, hv0] at e1
          rw [e1] at e
          injection e with e
          rw [e] at B9
          obtain ⟨AO, nO, cO, hv1⟩ := row_form ho1
          rw [hv1] at B9 ho1
          have RS := Lib.hid (blk_setCells ((ER.out).grow HG.out) [.slice AG L.length cG, .slice AO nO cO] rfl)
          have CH := Lib.hid (chg_setCells (w0.heap.size + 1) [.slice AG L.length cG, .slice AO nO cO] 0 wr)
          have HO1 := Lib.hid ho1
          have v0 := B9.cell 0
          have v1 := B9.cell 1
          have b0 := ((ER.out).grow HG.out).cell 0
          have b1 := ((ER.out).grow HG.out).cell 1
          have f0 := ((ER.out).grow HG.out).frozen 0
          have f1 := ((ER.out).grow HG.out).frozen 1
          simp at v0 v1 b0 b1
          have EW := Lib.hid ((ER.out).grow HG.out)
          have OGW := Lib.hid (own_growK _ OG.out HG.out)
          have GW := Lib.hid (gbT GR.out HG.out)
          clear e1 e2 e3 e hv0 hv1 hAll B9 hSF hF ho1 HP TS RO ER DR OG GR HG
          go_wp2_with fail
          refine ret_c Try.results68 (by rfl) stCircuit (cs := #[.slice AG L.length cG, .slice AO nO cO]) RS.out (by rfl) (by rfl) ?_
          have n0 : w0.heap.size + 1 ∉ FG := own_ty (Ts := [41]) (tyd_plst (by simp)) OGW.out EW.out (by decide)
          have n1 : w0.heap.size + 1 ∉ X1 := own_ty (Ts := [3]) (tyd_plst (by simp)) HO1.out EW.out (by decide)
          refine ⟨_, L, os, rfl, ccircuit_mk ((cgates (gt2 L)).toRd (own_chgK _ OGW.out CH.out (fun x hx e => n0 (by rw [← e]; exact hx)))) ((cints os).toRd (own_chgK _ HO1.out CH.out (fun x hx e => n1 (by rw [← e]; exact hx)))), HLL.out, by rw [HLEN.out, HQN.out], fun i hi => ?_, gbC GW.out CH.out (fun y hy => .inr (by rw [hy]; omega))⟩
          have := HOS.out i (by rw [← HLEN.out]; exact hi)
          exact this
end Go.Proofs.Ythdfkiaoahpjpaa
