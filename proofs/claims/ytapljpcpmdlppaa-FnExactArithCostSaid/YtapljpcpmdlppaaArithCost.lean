/-
  ArithCost, UsedErrors: reference and program.
-/
import Derived.Test.YtapljpcpmdlppaaRounds
import Derived.Test.YtapljpcpmdlppaaCost
namespace Go.Proofs.Ytapljpcpmdlppaa
open Go.RowKit
set_option linter.unusedVariables false
theorem stCost : St Try.prog 53 4 := ⟨⟨_, Try.underlying53, rfl⟩, by kernel_rfl⟩
set_option maxHeartbeats 1000000 in
theorem specArithCost_yes (m : AM) (v : Value) (w : World) (h : AggR w (carith m) v) (wf : m.wf) (hok : AOk m) :
    Calls Try.prog 45 #[v] w fun e w' => e = .returned (.agg #[.int .i64 (rounds m), .int .i64 (2 * (muls m.st m.st.length : Int)), .int .i64 (muls m.st m.st.length), .int .i64 0]) ∧ w.grownBy w' none := by
  have HV := Lib.hid h
  obtain ⟨u1, u2, rfl, h1, h2⟩ := carith_open h
  have HOK := Lib.hid hok
  have HW := Lib.hid wf
  have hmu : muls m.st m.st.length ≤ 60 := Nat.le_trans (muls_le _ _) hok.few
  have hrd := rounds_bd m
  clear h h1 h2 wf hok
  have A1 := Lib.hid ((Blk.new w 30 #[.int .i64 m.p, u1, u2]).grow (gbA (gbR _ none) (.cells #[.int .i64 0, .int .i64 0, .int .i64 0, .int .i64 0] 53)))
  have R1 := Lib.hid (Blk.new' (w.alloc (.cells #[.int .i64 m.p, u1, u2] 30)) 53 #[.int .i64 0, .int .i64 0, .int .i64 0, .int .i64 0] (w.heap.size + 1) (by simp))
  have G1 := Lib.hid (gbA (gbA (gbR w none) (.cells #[.int .i64 m.p, u1, u2] 30)) (.cells #[.int .i64 0, .int .i64 0, .int .i64 0, .int .i64 0] 53))
  go_enter Try.func45, Try.ntmps45
  go_wp2_with fail
  refine (specArithOk_c m _ _ (AggR.grow HV.out G1.out) HW.out).mono ?_
  rintro e w1 ⟨rfl, g⟩
  rw [arithB_yes HOK.out]
  have A2 := Lib.hid (A1.out.grow g)
  have R2 := Lib.hid (R1.out.grow g)
  have G2 := Lib.hid (gbT G1.out g)
  have k0 := A2.out.cell 0
  have k1 := A2.out.cell 1
  have k2 := A2.out.cell 2
  simp at k0 k1 k2
  clear g A1 R1 G1
  go_wp2_with fail
  refine (specCountMuls_c m _ _ (AggR.grow HV.out G2.out)).mono ?_
  rintro e w2 ⟨rfl, g⟩
  have A3 := Lib.hid (A2.out.grow g)
  have R3 := Lib.hid (R2.out.grow g)
  have G3 := Lib.hid (gbT G2.out g)
  clear g k0 k1 k2 A2 R2 G2
  have k0 := A3.out.cell 0
  have k1 := A3.out.cell 1
  have k2 := A3.out.cell 2
  simp at k0 k1 k2
  generalize hq : muls m.st m.st.length = q at *
  have HQ := Lib.hid hq
  clear hq
  go_wp2_with fail
  refine (specRoundsOf_c m _ _ (AggR.grow HV.out G3.out) HW.out).mono ?_
  rintro e w3 ⟨rfl, g⟩
  have R4 := Lib.hid (R3.out.grow g)
  have G4 := Lib.hid (gbT G3.out g)
  have s0 := R4.out.cell 0
  have s1 := R4.out.cell 1
  have s2 := R4.out.cell 2
  have s3 := R4.out.cell 3
  have t0 := R4.out.frozen 0
  have t1 := R4.out.frozen 1
  have t2 := R4.out.frozen 2
  have t3 := R4.out.frozen 3
  simp at s0 s1 s2 s3
  clear g k0 k1 k2 A3 R3 G3
  generalize hr : rounds m = r at *
  have HR := Lib.hid hr
  clear hr
  go_wp2_with fail
  refine ret_c Try.results45 (by rfl) stCost (cs := #[.int .i64 r, .int .i64 (2 * (q : Int)), .int .i64 q, .int .i64 0]) ?B (by rfl) (by rfl) ⟨by rw [HR.out, HQ.out], ?G⟩
  case B => exact (((R4.out.set_ 0 _).set_ 1 _).set_ 2 _).set_ 3 _
  case G => exact gbS (gbS (gbS (gbS G4.out (p := ⟨w.heap.size + 1, 0, none⟩) (by simp) _) (p := ⟨w.heap.size + 1, 1, none⟩) (by simp) _) (p := ⟨w.heap.size + 1, 2, none⟩) (by simp) _) (p := ⟨w.heap.size + 1, 3, none⟩) (by simp) _
theorem specArithCost_no (m : AM) (v : Value) (w : World) (h : AggR w (carith m) v) (wf : m.wf) (hok : ¬ AOk m) :
    Calls Try.prog 45 #[v] w fun e w' => e = .returned (.agg #[.int .i64 0, .int .i64 0, .int .i64 0, .int .i64 0]) ∧ w.grownBy w' none := by
  have HV := Lib.hid h
  obtain ⟨u1, u2, rfl, h1, h2⟩ := carith_open h
  have HOK := Lib.hid hok
  have HW := Lib.hid wf
  clear h h1 h2 wf hok
  have R1 := Lib.hid (Blk.new' (w.alloc (.cells #[.int .i64 m.p, u1, u2] 30)) 53 #[.int .i64 0, .int .i64 0, .int .i64 0, .int .i64 0] (w.heap.size + 1) (by simp))
  have G1 := Lib.hid (gbA (gbA (gbR w none) (.cells #[.int .i64 m.p, u1, u2] 30)) (.cells #[.int .i64 0, .int .i64 0, .int .i64 0, .int .i64 0] 53))
  go_enter Try.func45, Try.ntmps45
  go_wp2_with fail
  refine (specArithOk_c m _ _ (AggR.grow HV.out G1.out) HW.out).mono ?_
  rintro e w1 ⟨rfl, g⟩
  rw [arithB_no HOK.out]
  have R4 := Lib.hid (R1.out.grow g)
  have G4 := Lib.hid (gbT G1.out g)
  have s0 := R4.out.cell 0
  have s1 := R4.out.cell 1
  have s2 := R4.out.cell 2
  have s3 := R4.out.cell 3
  have t0 := R4.out.frozen 0
  have t1 := R4.out.frozen 1
  have t2 := R4.out.frozen 2
  have t3 := R4.out.frozen 3
  simp at s0 s1 s2 s3
  clear g R1 G1
  go_wp2_with fail
  refine ret_c Try.results45 (by rfl) stCost (cs := #[.int .i64 0, .int .i64 0, .int .i64 0, .int .i64 0]) ?B (by rfl) (by rfl) ⟨rfl, ?G⟩
  case B => exact (((R4.out.set_ 0 _).set_ 1 _).set_ 2 _).set_ 3 _
  case G => exact gbS (gbS (gbS (gbS G4.out (p := ⟨w.heap.size + 1, 0, none⟩) (by simp) _) (p := ⟨w.heap.size + 1, 1, none⟩) (by simp) _) (p := ⟨w.heap.size + 1, 2, none⟩) (by simp) _) (p := ⟨w.heap.size + 1, 3, none⟩) (by simp) _
set_option maxHeartbeats 1000000 in
theorem implArithCost_yes (m : AM) (v : Value) (w : World) (h : AggR w (carith m) v) (wf : m.wf) (hok : AOk m) :
    Calls Try.prog 46 #[v] w fun e w' => e = .returned (.agg #[.int .i64 (rounds m), .int .i64 (2 * (muls m.st m.st.length : Int)), .int .i64 (muls m.st m.st.length), .int .i64 0]) ∧ w.grownBy w' none := by
  have HV := Lib.hid h
  obtain ⟨u1, u2, rfl, h1, h2⟩ := carith_open h
  have HOK := Lib.hid hok
  have HW := Lib.hid wf
  have hmu : muls m.st m.st.length ≤ 60 := Nat.le_trans (muls_le _ _) hok.few
  have hrd := rounds_bd m
  clear h h1 h2 wf hok
  have A1 := Lib.hid ((Blk.new w 30 #[.int .i64 m.p, u1, u2]).grow (gbA (gbR _ none) (.cells #[.int .i64 0, .int .i64 0, .int .i64 0, .int .i64 0] 53)))
  have R1 := Lib.hid (Blk.new' (w.alloc (.cells #[.int .i64 m.p, u1, u2] 30)) 53 #[.int .i64 0, .int .i64 0, .int .i64 0, .int .i64 0] (w.heap.size + 1) (by simp))
  have G1 := Lib.hid (gbA (gbA (gbR w none) (.cells #[.int .i64 m.p, u1, u2] 30)) (.cells #[.int .i64 0, .int .i64 0, .int .i64 0, .int .i64 0] 53))
  go_enter Try.func46, Try.ntmps46
  go_wp2_with fail
  refine (implArithOk_c m _ _ (AggR.grow HV.out G1.out) HW.out).mono ?_
  rintro e w1 ⟨rfl, g⟩
  rw [arithB_yes HOK.out]
  have A2 := Lib.hid (A1.out.grow g)
  have R2 := Lib.hid (R1.out.grow g)
  have G2 := Lib.hid (gbT G1.out g)
  have k0 := A2.out.cell 0
  have k1 := A2.out.cell 1
  have k2 := A2.out.cell 2
  simp at k0 k1 k2
  clear g A1 R1 G1
  go_wp2_with fail
  refine (implCountMuls_c m _ _ (AggR.grow HV.out G2.out)).mono ?_
  rintro e w2 ⟨rfl, g⟩
  have A3 := Lib.hid (A2.out.grow g)
  have R3 := Lib.hid (R2.out.grow g)
  have G3 := Lib.hid (gbT G2.out g)
  clear g k0 k1 k2 A2 R2 G2
  have k0 := A3.out.cell 0
  have k1 := A3.out.cell 1
  have k2 := A3.out.cell 2
  simp at k0 k1 k2
  generalize hq : muls m.st m.st.length = q at *
  have HQ := Lib.hid hq
  clear hq
  go_wp2_with fail
  refine (implRoundsOf_c m _ _ (AggR.grow HV.out G3.out) HW.out).mono ?_
  rintro e w3 ⟨rfl, g⟩
  have R4 := Lib.hid (R3.out.grow g)
  have G4 := Lib.hid (gbT G3.out g)
  have s0 := R4.out.cell 0
  have s1 := R4.out.cell 1
  have s2 := R4.out.cell 2
  have s3 := R4.out.cell 3
  have t0 := R4.out.frozen 0
  have t1 := R4.out.frozen 1
  have t2 := R4.out.frozen 2
  have t3 := R4.out.frozen 3
  simp at s0 s1 s2 s3
  clear g k0 k1 k2 A3 R3 G3
  generalize hr : rounds m = r at *
  have HR := Lib.hid hr
  clear hr
  go_wp2_with fail
  refine ret_c Try.results46 (by rfl) stCost (cs := #[.int .i64 r, .int .i64 (2 * (q : Int)), .int .i64 q, .int .i64 0]) ?B (by rfl) (by rfl) ⟨by rw [HR.out, HQ.out], ?G⟩
  case B => exact (((R4.out.set_ 0 _).set_ 1 _).set_ 2 _).set_ 3 _
  case G => exact gbS (gbS (gbS (gbS G4.out (p := ⟨w.heap.size + 1, 0, none⟩) (by simp) _) (p := ⟨w.heap.size + 1, 1, none⟩) (by simp) _) (p := ⟨w.heap.size + 1, 2, none⟩) (by simp) _) (p := ⟨w.heap.size + 1, 3, none⟩) (by simp) _
theorem implArithCost_no (m : AM) (v : Value) (w : World) (h : AggR w (carith m) v) (wf : m.wf) (hok : ¬ AOk m) :
    Calls Try.prog 46 #[v] w fun e w' => e = .returned (.agg #[.int .i64 0, .int .i64 0, .int .i64 0, .int .i64 0]) ∧ w.grownBy w' none := by
  have HV := Lib.hid h
  obtain ⟨u1, u2, rfl, h1, h2⟩ := carith_open h
  have HOK := Lib.hid hok
  have HW := Lib.hid wf
  clear h h1 h2 wf hok
  have R1 := Lib.hid (Blk.new' (w.alloc (.cells #[.int .i64 m.p, u1, u2] 30)) 53 #[.int .i64 0, .int .i64 0, .int .i64 0, .int .i64 0] (w.heap.size + 1) (by simp))
  have G1 := Lib.hid (gbA (gbA (gbR w none) (.cells #[.int .i64 m.p, u1, u2] 30)) (.cells #[.int .i64 0, .int .i64 0, .int .i64 0, .int .i64 0] 53))
  go_enter Try.func46, Try.ntmps46
  go_wp2_with fail
  refine (implArithOk_c m _ _ (AggR.grow HV.out G1.out) HW.out).mono ?_
  rintro e w1 ⟨rfl, g⟩
  rw [arithB_no HOK.out]
  have R4 := Lib.hid (R1.out.grow g)
  have G4 := Lib.hid (gbT G1.out g)
  have s0 := R4.out.cell 0
  have s1 := R4.out.cell 1
  have s2 := R4.out.cell 2
  have s3 := R4.out.cell 3
  have t0 := R4.out.frozen 0
  have t1 := R4.out.frozen 1
  have t2 := R4.out.frozen 2
  have t3 := R4.out.frozen 3
  simp at s0 s1 s2 s3
  clear g R1 G1
  go_wp2_with fail
  refine ret_c Try.results46 (by rfl) stCost (cs := #[.int .i64 0, .int .i64 0, .int .i64 0, .int .i64 0]) ?B (by rfl) (by rfl) ⟨rfl, ?G⟩
  case B => exact (((R4.out.set_ 0 _).set_ 1 _).set_ 2 _).set_ 3 _
  case G => exact gbS (gbS (gbS (gbS G4.out (p := ⟨w.heap.size + 1, 0, none⟩) (by simp) _) (p := ⟨w.heap.size + 1, 1, none⟩) (by simp) _) (p := ⟨w.heap.size + 1, 2, none⟩) (by simp) _) (p := ⟨w.heap.size + 1, 3, none⟩) (by simp) _
def usedE (m : AM) (es : List Int) : List Int := es.take (min es.length (2 * muls m.st m.st.length))
theorem usedE_len (m : AM) (es : List Int) : (usedE m es).length ≤ es.length := by simp [usedE]; omega
theorem Ints.take {w : World} {A : Option Addr} {n : Nat} {zs : List Int} (h : Ints w A n zs) {k : Nat} (hk : k ≤ n) : Ints w A k (zs.take k) := by
  have hl := h.len
  refine ⟨by simp; omega, fun hp => ?_⟩
  obtain ⟨b, o, e, hb, hc⟩ := h.at_ (by omega)
  refine ⟨b, o, e, hb, fun j hj => ?_⟩
  rw [hc j (by omega), List.getElem?_map, List.getElem?_take, if_pos (by omega), List.getElem?_eq_getElem (by omega), getI _ _ (by omega)]
  rfl
set_option maxHeartbeats 1000000 in
theorem specUsedErrors_c (m : AM) (es : List Int) (v0 v1 : Value) (w : World) (h : AggR w (carith m) v0) (k : (cints es).rd w v1) (hz : m.st.length ≤ 1048576) (hz1 : es.length ≤ 1048576) :
    Calls Try.prog 32 #[v0, v1] w (RowI (usedE m es) w) := by
  have HV := Lib.hid h
  obtain ⟨u1, u2, rfl, h1, h2⟩ := carith_open h
  obtain ⟨A, c, rfl, hc, hm, hI⟩ := cints_rd k
  have HI := Lib.hid hI
  have hq := muls_le m.st m.st.length
  obtain ⟨q, hqe⟩ : ∃ q, muls m.st m.st.length = q := ⟨_, rfl⟩
  rw [hqe] at hq
  have HQ := Lib.hid hqe
  obtain ⟨n, hn⟩ : ∃ n, es.length = n := ⟨_, rfl⟩
  rw [hn] at hc hz1 HI ⊢
  have HN := Lib.hid hn
  unfold maxLen at hm
  have G1 := Lib.hid (gbA (gbA (gbR w none) (.cells #[.int .i64 m.p, u1, u2] 30)) (.cells #[] 3))
  have O1 := World.ownsRow_made (e := 3) (size := 1) (base := w.heap.size + 1) (w.alloc (.cells #[.int .i64 m.p, u1, u2] 30)) #[] 0 (by simp) (by simp) rfl
  have O2 : Hid (((w.alloc (.cells #[.int .i64 m.p, u1, u2] 30)).alloc (.cells #[] 3)).ownsRow (w.heap.size + 1) 3 1 (.slice (some ⟨w.heap.size + 1, 0, none⟩) 0 0) 0 []) := by simpa [Hid] using O1
  clear h h1 h2 k hI hqe hn O1
  go_enter Try.func32, Try.ntmps32
  go_wp2_with fail
  refine (specCountMuls_c m _ _ (AggR.grow HV.out G1.out)).mono ?_
  rintro e w1 ⟨rfl, g⟩
  rw [HQ.out]
  have G2 := Lib.hid (gbT G1.out g)
  have O3 := Lib.hid (own_grow O2.out g)
  clear g G1 O2
  have hz0 := G2.out.size
  by_cases hmin : 2 * (q : Int) < (n : Int)
  · have HU : Hid (usedE m es = es.take (2 * (q : Int)).toNat) := by unfold Hid usedE; rw [HQ.out, HN.out]; congr 1; omega
    have hlt : (es.take (2 * (q : Int)).toNat).length = (2 * (q : Int)).toNat := by rw [List.length_take, HN.out]; omega
    have HLT := Lib.hid hlt
    clear hlt
    go_wp2_with (at_builtin; refine wp_appendT w1 el_int rfl (.tmp 5) (.tmp 13) rfl (w.heap.size + 1) _ 0 [] O3.out rfl A (2 * (q : Int)).toNat c _ rfl (Ints.grow (Ints.take HI.out (by omega)) G2.out) (ints_one (es.take (2 * (q : Int)).toNat)) (by unfold maxLen; omega) (by omega) (Nat.le_of_lt (O3.out.lt _ rfl).2) ?_; intro v' w5 hown5 hgrow5 _)
    all_goals
      go_ret
      rw [HU.out]
      refine ⟨v', rfl, own_base (by rw [HLT.out]; simpa using hown5) (by omega), gbN G2.out hgrow5 fun g e => ?_⟩
      have := (O3.out.lt g e).1
      omega
  · have HU : Hid (usedE m es = es) := by unfold Hid usedE; rw [HQ.out, HN.out, List.take_of_length_le]; rw [HN.out]; omega
    go_wp2_with (at_builtin; refine wp_appendT w1 el_int rfl (.tmp 5) (.tmp 13) rfl (w.heap.size + 1) _ 0 [] O3.out rfl A n c _ rfl (Ints.grow HI.out G2.out) (ints_one es) (by unfold maxLen; omega) (by omega) (Nat.le_of_lt (O3.out.lt _ rfl).2) ?_; intro v' w5 hown5 hgrow5 _)
    all_goals
      go_ret
      rw [HU.out]
      refine ⟨v', rfl, own_base (by rw [HN.out]; simpa using hown5) (by omega), gbN G2.out hgrow5 fun g e => ?_⟩
      have := (O3.out.lt g e).1
      omega
set_option maxHeartbeats 1000000 in
theorem implUsedErrors_c (m : AM) (es : List Int) (v0 v1 : Value) (w : World) (h : AggR w (carith m) v0) (k : (cints es).rd w v1) (hz : m.st.length ≤ 1048576) (hz1 : es.length ≤ 1048576) :
    Calls Try.prog 34 #[v0, v1] w (RowI (usedE m es) w) := by
  have HV := Lib.hid h
  obtain ⟨u1, u2, rfl, h1, h2⟩ := carith_open h
  obtain ⟨A, c, rfl, hc, hm, hI⟩ := cints_rd k
  have HI := Lib.hid hI
  have hq := muls_le m.st m.st.length
  obtain ⟨q, hqe⟩ : ∃ q, muls m.st m.st.length = q := ⟨_, rfl⟩
  rw [hqe] at hq
  have HQ := Lib.hid hqe
  obtain ⟨n, hn⟩ : ∃ n, es.length = n := ⟨_, rfl⟩
  rw [hn] at hc hz1 HI ⊢
  have HN := Lib.hid hn
  unfold maxLen at hm
  have G1 := Lib.hid (gbA (gbR w none) (.cells #[.int .i64 m.p, u1, u2] 30))
  clear h h1 h2 k hI hqe hn
  go_enter Try.func34, Try.ntmps34
  go_wp2_with fail
  refine (implCountMuls_c m _ _ (AggR.grow HV.out G1.out)).mono ?_
  rintro e w1 ⟨rfl, g⟩
  rw [HQ.out]
  have G2 := Lib.hid (gbT G1.out g)
  clear g G1
  have hz0 := G2.out.size
  by_cases hmin : 2 * (q : Int) < (n : Int)
  · have HU : Hid (usedE m es = es.take (2 * (q : Int)).toNat) := by unfold Hid usedE; rw [HQ.out, HN.out]; congr 1; omega
    have hlt : (es.take (2 * (q : Int)).toNat).length = (2 * (q : Int)).toNat := by rw [List.length_take, HN.out]; omega
    have HLT := Lib.hid hlt
    clear hlt
    go_wp2_with (go_at_call 90; refine (ints_c A (2 * (q : Int)).toNat c (es.take (2 * (q : Int)).toNat) _ (Ints.grow (Ints.take HI.out (by omega)) G2.out) (by omega)).mono ?_; rintro e w5 ⟨v', rfl, hown5, hg5⟩)
    all_goals
      go_ret
      rw [HU.out]
      exact ⟨v', rfl, own_base (by rw [HLT.out]; exact hown5) hz0, gbT G2.out hg5⟩
  · have HU : Hid (usedE m es = es) := by unfold Hid usedE; rw [HQ.out, HN.out, List.take_of_length_le]; rw [HN.out]; omega
    go_wp2_with (go_at_call 90; refine (ints_c A n c es _ (Ints.grow HI.out G2.out) (by omega)).mono ?_; rintro e w5 ⟨v', rfl, hown5, hg5⟩)
    all_goals
      go_ret
      rw [HU.out]
      exact ⟨v', rfl, own_base (by rw [HN.out]; exact hown5) hz0, gbT G2.out hg5⟩
end Go.Proofs.Ytapljpcpmdlppaa
