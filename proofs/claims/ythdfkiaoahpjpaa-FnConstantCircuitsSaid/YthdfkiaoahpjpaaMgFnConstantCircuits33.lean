/-
  The simplifier: a constant, a negation, a gate of two.
-/
import Derived.Test.YthdfkiaoahpjpaaMgFnConstantCircuits32
namespace Go.Proofs.Ythdfkiaoahpjpaa
open Go.RowKit
set_option linter.unusedVariables false
set_option linter.unusedSimpArgs false
theorem SimS.at_ {lo g mb : Nat} {L : List Nat} {w : World} (h : SimS lo g mb L w) {k b : Nat} (hk : L[k]? = some b) :
    ∃ bl o c, w.cell? ⟨g, 0, none⟩ = some (.slice (some ⟨bl, o, none⟩) L.length c) ∧ k < L.length ∧ b ≤ 1 ∧ w.cell? ⟨bl, o + k * 3, none⟩ = some (.int .i64 2) ∧ w.cell? ⟨bl, o + k * 3 + 1, none⟩ = some (.int .i64 b) := by
  obtain ⟨_, ⟨hL, _⟩, _, u0, F0, hb, o0, _⟩ := h
  obtain ⟨A, c, rfl, _, _, hF⟩ := plst_rd (s := 3) (fun _ => rfl) (by omega) ((cgates (gt2 L)).toRd o0)
  rw [gt2_len] at hF
  have hlt : k < L.length := (List.getElem?_eq_some_iff.1 hk).1
  obtain ⟨bl, o, x, y, z, rfl, _, hx, q0, q1, q2⟩ := gates_at hF hlt
  have v0 := hb.cell 0
  rw [gt2_len] at v0
  simp at v0
  have hg : (gt2 L)[k]? = some (2, (b : Int), 0) := by simp [gt2, hk]
  rw [hg] at hx
  injection hx with hx
  injection hx with h1 hx
  injection hx with h2 h3
  subst h1; subst h2; subst h3
  exact ⟨bl, o, c, v0, hlt, hL b (List.getElem?_eq_some_iff.1 hk |>.2 ▸ List.getElem_mem hlt), q0, q1⟩
set_option maxHeartbeats 1600000 in
set_option maxRecDepth 100000 in
theorem simConst_c (L : List Nat) (lo g mb k b : Nat) (w : World) (h : SimS lo g mb L w) (hk : L[k]? = some b) :
    Calls Try.prog 114 #[.pointer (some ⟨g, 0, none⟩), .int .i64 k] w fun e w' => e = .returned (.int .i64 b) ∧ w' = w := by
  obtain ⟨bl, o, c, v0, hlt, hb, q0, q1⟩ := h.at_ hk
  have i1 : (k : Int) < (L.length : Int) := by omega
  have i0 : (0 : Int) ≤ (k : Int) := by omega
  have hL2 := short2 h.2.1.1 h.2.1.2
  clear h hk
  go_enter Try.func114, Try.ntmps114
  go_wp2_with fail
  refine bodyPost_ret (v := .int .i64 b) (by simp [results, Try.results114]) rfl ?_
  exact ⟨rfl, rfl⟩
set_option maxHeartbeats 1600000 in
set_option maxRecDepth 100000 in
theorem simNeg_c (L : List Nat) (lo g mb k b : Nat) (w : World) (h : SimS lo g mb L w) (hk : L[k]? = some b) (hlo : lo ≤ w.heap.size) :
    Calls Try.prog 97 #[.pointer (some ⟨g, 0, none⟩), .int .i64 k] w fun e w' => e = .returned (.int .i64 (ixB (addB L (1 - b)) (1 - b) : Nat)) ∧ SimS lo g mb (addB L (1 - b)) w' ∧ Chg (GBT 124 lo w) w w' := by
  obtain ⟨bl, o, c, v0, hlt, hb, q0, q1⟩ := h.at_ hk
  have i1 : (k : Int) < (L.length : Int) := by omega
  have i0 : (0 : Int) ≤ (k : Int) := by omega
  have hL2 := short2 h.2.1.1 h.2.1.2
  have HS := Lib.hid h
  clear h hk
  go_enter Try.func97, Try.ntmps97
  go_wp2_with fail
  rw [show (1 : Int) - (b : Int) = ((1 - b : Nat) : Int) by omega]
  refine (simGate_c L lo g mb (1 - b) (by omega) w HS.out hlo).mono ?_
  rintro e w1 ⟨rfl, s1, k1⟩
  have S1 := Lib.hid s1
  have K1 := Lib.hid k1
  clear s1 k1
  go_wp2_with fail
  refine bodyPost_ret (v := .int .i64 (ixB (addB L (1 - b)) (1 - b) : Nat)) (by simp [results, Try.results97]) rfl ?_
  exact ⟨rfl, S1.out, K1.out⟩
end Go.Proofs.Ythdfkiaoahpjpaa
/-
  The simplifier: a gate of two.
-/
namespace Go.Proofs.Ythdfkiaoahpjpaa
open Go.RowKit
set_option linter.unusedVariables false
set_option linter.unusedSimpArgs false
def BinP (L : List Nat) (lo g mb v : Nat) (w : World) (e : Ending) (w' : World) : Prop :=
  ∃ (k : Nat) (M : List Nat), e = .returned (.int .i64 k) ∧ (L ++ M)[k]? = some v ∧ SimS lo g mb (L ++ M) w' ∧ Chg (GBT 124 lo w) w w'
theorem binP_gate {L : List Nat} {lo g mb v b : Nat} {w0 w w' : World} {e : Ending} (hb : b = v) (hg : Chg (GBT 124 lo w0) w0 w) (he : e = .returned (.int .i64 (ixB (addB L b) b : Nat))) (s : SimS lo g mb (addB L b) w') (k : Chg (GBT 124 lo w) w w') : BinP L lo g mb v w0 e w' := by
  subst hb
  obtain ⟨M, hM⟩ := addB_pre L b
  have := addB_at L b
  rw [hM] at this s he
  exact ⟨_, M, he, this, s, GBT.trans hg k⟩
theorem binP_old {L : List Nat} {lo g mb v k : Nat} {w0 w : World} {e : Ending} (he : e = .returned (.int .i64 k)) (hk : L[k]? = some v) (hg : w0.grownBy w none) (s : SimS lo g mb L w) : BinP L lo g mb v w0 e w :=
  ⟨k, [], he, by simpa using hk, by simpa using s, GBT.grow hg⟩
set_option maxHeartbeats 1600000 in
set_option maxRecDepth 100000 in
theorem simXor_c (L : List Nat) (lo g mb a b x y : Nat) (w : World) (h : SimS lo g mb L w) (ha : L[a]? = some x) (hb : L[b]? = some y) (hlo : lo ≤ w.heap.size) :
    Calls Try.prog 96 #[.pointer (some ⟨g, 0, none⟩), .int .i64 3, .int .i64 a, .int .i64 b] w (BinP L lo g mb (x ^^^ y) w) := by
  obtain ⟨_, _, _, _, _, hx1, _, _⟩ := h.at_ ha
  obtain ⟨_, _, _, _, _, hy1, _, _⟩ := h.at_ hb
  have HS := Lib.hid h
  have HA := Lib.hid ha
  have HBB := Lib.hid hb
  clear h ha hb
  obtain ⟨w2, hw2⟩ : ∃ q : World, w.alloc (.cells #[.int .i64 a, .int .i64 b, .int .i64 b, .int .i64 a] 136) = q := ⟨_, rfl⟩
  have g2 : w.grownBy w2 none := by rw [← hw2]; exact gbA (gbR _ _) _
  have hz2 : w2.heap.size = w.heap.size + 1 := by rw [← hw2]; simp
  have B2 : Hid (Blk w2 w.heap.size 136 #[.int .i64 a, .int .i64 b, .int .i64 b, .int .i64 a]) := by rw [← hw2]; exact Lib.hid (Blk.new w _ _)
  obtain ⟨w3, hw3⟩ : ∃ q : World, w2.alloc (.cells #[.int .i64 a, .int .i64 b] 136) = q := ⟨_, rfl⟩
  have g3 : w2.grownBy w3 none := by rw [← hw3]; exact gbA (gbR _ _) _
  have hz3 : w3.heap.size = w2.heap.size + 1 := by rw [← hw3]; simp
  have B3 : Hid (Blk w3 w2.heap.size 136 #[.int .i64 a, .int .i64 b]) := by rw [← hw3]; exact Lib.hid (Blk.new w2 _ _)
  have G3 := Lib.hid (gbT g2 g3)
  have S3 := Lib.hid (HS.out.grow G3.out)
  have HW2 := Lib.hid hw2
  have HW3 := Lib.hid hw3
  clear hw2 hw3 g2 g3
  go_enter Try.func96, Try.ntmps96
  by_cases hab : a = b
  · subst hab
    have hxy : Hid (x = y) := by
      have h1 := HA.out
      rw [HBB.out] at h1
      injection h1 with h1
      exact Lib.hid h1.symm
    go_wp2_with fail
    refine (simGate_c L lo g mb 0 (by omega) w HS.out hlo).mono ?_
    rintro e w1 ⟨rfl, s1, k1⟩
    have S1 := Lib.hid s1
    have K1 := Lib.hid k1
    clear s1 k1
    go_wp2_with fail
    refine bodyPost_ret (v := .int .i64 (ixB (addB L 0) 0 : Nat)) (by simp [results, Try.results96]) rfl ?_
    exact binP_gate (by rw [hxy.out, Nat.xor_self]) (Chg.refl _ _) rfl S1.out K1.out
  · skip
    have hab2 : ¬ (a : Int) = (b : Int) := by omega
    go_wp2_with fail
    rw [HW2.out]
    go_loopw [28] (fun q wr => q = .int .i64 0 ∧ wr = w2) (fun _ _ => 0)
    case atStart => exact ⟨rfl, rfl⟩
    case round =>
      obtain ⟨rfl, rfl⟩ := hrel
      have c0 := B2.out.cell 0
      have c1 := B2.out.cell 1
      simp at c0 c1
      clear B2
      go_wp2_with fail
      rw [HW3.out]
      have d0 := B3.out.cell 0
      have d1 := B3.out.cell 1
      simp at d0 d1
      rw [hz2] at d0 d1
      clear c0 c1 HW2 HW3
      go_wp2_with fail
      refine (simConst_c L lo g mb a x w3 S3.out HA.out).mono ?_
      rintro e w4 ⟨rfl, rfl⟩
      rcases (by omega : x = 0 ∨ x = 1) with rfl | rfl
      · rw [show ((0 : Nat) : Int) = 0 from rfl]
        go_wp2_with fail
        refine bodyPost_ret (v := .int .i64 b) (by simp [results, Try.results96]) rfl ?_
        exact binP_old rfl (by rw [HBB.out]; simp) G3.out S3.out
      · rw [show ((1 : Nat) : Int) = 1 from rfl]
        go_wp2_with fail
        refine (simNeg_c L lo g mb b y _ S3.out HBB.out (by omega)).mono ?_
        rintro e w5 ⟨rfl, s1, k1⟩
        have S5 := Lib.hid s1
        have K5 := Lib.hid k1
        clear s1 k1
        go_wp2_with fail
        refine bodyPost_ret (v := .int .i64 (ixB (addB L (1 - y)) (1 - y) : Nat)) (by simp [results, Try.results96]) rfl ?_
        exact binP_gate (by rcases (by omega : y = 0 ∨ y = 1) with h | h <;> rw [h] <;> rfl) (GBT.grow G3.out) rfl S5.out K5.out
set_option maxHeartbeats 1600000 in
set_option maxRecDepth 100000 in
theorem simAnd_c (L : List Nat) (lo g mb a b x y : Nat) (w : World) (h : SimS lo g mb L w) (ha : L[a]? = some x) (hb : L[b]? = some y) (hlo : lo ≤ w.heap.size) :
    Calls Try.prog 96 #[.pointer (some ⟨g, 0, none⟩), .int .i64 4, .int .i64 a, .int .i64 b] w (BinP L lo g mb (x &&& y) w) := by
  obtain ⟨_, _, _, _, _, hx1, _, _⟩ := h.at_ ha
  obtain ⟨_, _, _, _, _, hy1, _, _⟩ := h.at_ hb
  have HS := Lib.hid h
  have HA := Lib.hid ha
  have HBB := Lib.hid hb
  clear h ha hb
  obtain ⟨w2, hw2⟩ : ∃ q : World, w.alloc (.cells #[.int .i64 a, .int .i64 b, .int .i64 b, .int .i64 a] 136) = q := ⟨_, rfl⟩
  have g2 : w.grownBy w2 none := by rw [← hw2]; exact gbA (gbR _ _) _
  have hz2 : w2.heap.size = w.heap.size + 1 := by rw [← hw2]; simp
  have B2 : Hid (Blk w2 w.heap.size 136 #[.int .i64 a, .int .i64 b, .int .i64 b, .int .i64 a]) := by rw [← hw2]; exact Lib.hid (Blk.new w _ _)
  obtain ⟨w3, hw3⟩ : ∃ q : World, w2.alloc (.cells #[.int .i64 a, .int .i64 b] 136) = q := ⟨_, rfl⟩
  have g3 : w2.grownBy w3 none := by rw [← hw3]; exact gbA (gbR _ _) _
  have hz3 : w3.heap.size = w2.heap.size + 1 := by rw [← hw3]; simp
  have B3 : Hid (Blk w3 w2.heap.size 136 #[.int .i64 a, .int .i64 b]) := by rw [← hw3]; exact Lib.hid (Blk.new w2 _ _)
  have G3 := Lib.hid (gbT g2 g3)
  have S3 := Lib.hid (HS.out.grow G3.out)
  have HW2 := Lib.hid hw2
  have HW3 := Lib.hid hw3
  clear hw2 hw3 g2 g3
  go_enter Try.func96, Try.ntmps96
  by_cases hab : a = b
  · subst hab
    have hxy : Hid (x = y) := by
      have h1 := HA.out
      rw [HBB.out] at h1
      injection h1 with h1
      exact Lib.hid h1.symm
    go_wp2_with fail
    refine bodyPost_ret (v := .int .i64 a) (by simp [results, Try.results96]) rfl ?_
    exact binP_old rfl (by rw [HBB.out, hxy.out, Nat.and_self]) (gbR _ _) HS.out
  · skip
    have hab2 : ¬ (a : Int) = (b : Int) := by omega
    go_wp2_with fail
    rw [HW2.out]
    go_loopw [28] (fun q wr => q = .int .i64 0 ∧ wr = w2) (fun _ _ => 0)
    case atStart => exact ⟨rfl, rfl⟩
    case round =>
      obtain ⟨rfl, rfl⟩ := hrel
      have c0 := B2.out.cell 0
      have c1 := B2.out.cell 1
      simp at c0 c1
      clear B2
      go_wp2_with fail
      rw [HW3.out]
      have d0 := B3.out.cell 0
      have d1 := B3.out.cell 1
      simp at d0 d1
      rw [hz2] at d0 d1
      clear c0 c1 HW2 HW3
      go_wp2_with fail
      refine (simConst_c L lo g mb a x w3 S3.out HA.out).mono ?_
      rintro e w4 ⟨rfl, rfl⟩
      rcases (by omega : x = 0 ∨ x = 1) with rfl | rfl
      · rw [show ((0 : Nat) : Int) = 0 from rfl]
        go_wp2_with fail
        refine (simGate_c L lo g mb 0 (by omega) _ S3.out (by omega)).mono ?_
        rintro e w5 ⟨rfl, s1, k1⟩
        have S5 := Lib.hid s1
        have K5 := Lib.hid k1
        clear s1 k1
        go_wp2_with fail
        refine bodyPost_ret (v := .int .i64 (ixB (addB L 0) 0 : Nat)) (by simp [results, Try.results96]) rfl ?_
        exact binP_gate (by simp) (GBT.grow G3.out) rfl S5.out K5.out
      · rw [show ((1 : Nat) : Int) = 1 from rfl]
        have hy2 : Hid (1 &&& y = y) := by rcases (by omega : y = 0 ∨ y = 1) with h | h <;> rw [h] <;> rfl
        go_wp2_with fail
        refine bodyPost_ret (v := .int .i64 b) (by simp [results, Try.results96]) rfl ?_
        exact binP_old rfl (by rw [HBB.out, hy2.out]) G3.out S3.out
end Go.Proofs.Ythdfkiaoahpjpaa
