/-
  The laws' helpers on slices of Publics, by what they read as (printed by wip/gen_pubsk.py).
-/
import Derived.Test.YthdfkiaoahpjpaaMgFnExactCopiesNew36
namespace Go.Proofs.Ythdfkiaoahpjpaa
open Go.RowKit
set_option linter.unusedVariables false
set_option linter.unusedSimpArgs false
def setL : List CS → Nat → List CS → List CS
  | cs, _, [] => cs
  | cs, k, d :: ds => setL (cs.set k d) (k + 1) ds
theorem setL_get : ∀ (ds cs : List CS) (k j : Nat), k + ds.length ≤ cs.length → (setL cs k ds)[j]? = if k ≤ j ∧ j < k + ds.length then ds[j - k]? else cs[j]?
  | [], cs, k, j, h => by rw [if_neg (by simp only [List.length_nil]; omega), setL]
  | d :: ds, cs, k, j, h => by
    rw [List.length_cons] at h
    rw [setL, setL_get ds _ (k + 1) j (by rw [List.length_set]; omega), List.length_cons]
    by_cases e : j = k
    · subst e
      rw [if_neg (by omega), if_pos (by omega), Nat.sub_self, List.getElem?_set, if_pos rfl, if_pos (by omega)]
      rfl
    · by_cases h1 : k + 1 ≤ j ∧ j < k + 1 + ds.length
      · rw [if_pos h1, if_pos (by omega), show j - k = (j - (k + 1)) + 1 by omega, List.getElem?_cons_succ]
      · rw [if_neg h1, if_neg (by omega), List.getElem?_set, if_neg (fun h => e h.symm)]
theorem flat_setL {α : Type} {sz : Nat} {F : α → List CS} (hF : ∀ x, (F x).length = sz) (hs : 0 < sz) (xs : List α) (i : Nat) (hi : i < xs.length) (x : α) : setL (xs.flatMap F) (i * sz) (F x) = (xs.set i x).flatMap F := by
  have hlen : (xs.flatMap F).length = xs.length * sz := flat_len (sz := sz) hF xs
  have hle : i * sz + sz ≤ xs.length * sz := by
    have := Nat.mul_le_mul_right sz (show i + 1 ≤ xs.length by omega)
    rwa [Nat.succ_mul] at this
  apply List.ext_getElem?
  intro m
  rw [setL_get _ _ _ _ (by rw [hlen, hF]; exact hle), flat_get' hF hs xs, flat_get' hF hs (xs.set i x), hF]
  have hm := Nat.mod_lt m hs
  have hdm := Nat.div_add_mod m sz
  rw [Nat.mul_comm] at hdm
  by_cases e : m / sz = i
  · subst e
    rw [if_pos (by omega), List.getElem?_set, if_pos rfl, if_pos hi, show m - m / sz * sz = m % sz by omega]
    rfl
  · rw [if_neg, List.getElem?_set, if_neg (fun h => e h.symm)]
    intro h
    apply e
    have h1 : m < (i + 1) * sz := by rw [Nat.succ_mul]; omega
    have h2 := (Nat.div_lt_iff_lt_mul hs).2 h1
    have h3 := (Nat.le_div_iff_mul_le hs).2 h.1
    omega
def puS (xs : List PbM) (k : Nat) : Nat := ((xs.take k).map PbM.sz).sum
theorem puS_zero (xs : List PbM) : puS xs 0 = 0 := by simp [puS]
theorem puS_succ (xs : List PbM) (k : Nat) (x : PbM) (h : xs[k]? = some x) : puS xs (k + 1) = puS xs k + x.sz := by
  obtain ⟨hk, rfl⟩ := List.getElem?_eq_some_iff.1 h
  unfold puS
  rw [List.take_succ_eq_append_getElem hk, List.map_append, List.sum_append]
  simp
theorem puS_mono (xs : List PbM) {j k : Nat} (h : j ≤ k) : puS xs j ≤ puS xs k := by
  induction k with
  | zero =>
    have : j = 0 := by omega
    subst this; exact Nat.le_refl _
  | succ k ih =>
    by_cases e : j = k + 1
    · subst e; exact Nat.le_refl _
    · have h1 := ih (by omega)
      cases hk : xs[k]? with
      | some x => rw [puS_succ xs k x hk]; omega
      | none =>
        have hl : xs.length ≤ k := by simpa using hk
        have : puS xs (k + 1) = puS xs k := by unfold puS; rw [List.take_of_length_le (by omega), List.take_of_length_le (by omega)]
        omega
def fitP (xs : List PbM) : Prop := xs.length ≤ 1048576 ∧ (∀ x ∈ xs, x.fit) ∧ puS xs xs.length ≤ 16777216
set_option maxRecDepth 100000 in
set_option maxHeartbeats 800000 in
theorem eqPublicS_z (xss : List PbM) (v u : Value) (w : World) (h : (cpubs xss).rd w v) (k : (cpubs xss).rd w u) (hs : fitP xss) :
    Calls Try.prog 31 #[v, u] w fun e w' => e = .returned (.bool true) ∧ w.grownBy w' none := by
  obtain ⟨A, c, rfl, hc, hm⟩ := cps_rd h
  obtain ⟨B, d, rfl, hd, hm'⟩ := cps_rd k
  have HX := Lib.hid h
  have HY := Lib.hid k
  have HSM : Hid (∀ x ∈ xss, x.fit) := Lib.hid hs.2.1
  have hn : xss.length ≤ 1048576 := hs.1
  obtain ⟨n, hnn⟩ : ∃ n, xss.length = n := ⟨_, rfl⟩
  rw [hnn] at hc hd hn HX HY ⊢
  have LX := Lib.hid hnn
  clear h k hs hnn
  have hd : ((n : Int) != (n : Int)) = false := by simp
  go_enter Try.func31, Try.ntmps31
  go_wp2_with fail
  go_loopw [5] (fun i wr => ∃ k : Nat, k ≤ n ∧ i = .int .i64 k ∧ Hid (w.grownBy wr none)) (fun i _ => n - (intOf i).toNat)
  case atStart => exact ⟨0, Nat.zero_le _, rfl, gbR _ _⟩
  case round =>
    obtain ⟨k, hk, rfl, hg⟩ := hrel
    by_cases hlt : k < n
    · obtain ⟨b, o, X0, X1, X2, x0, x1, x2, rfl, _, q0, q1, q2, qq⟩ := cpubs_at (CS.grow _ HX.out hg.out) hlt
      have q_tr := qq
      clear qq
      obtain ⟨b', o', Y0, Y1, Y2, y0, y1, y2, rfl, _, r0, r1, r2, qq⟩ := cpubs_at (CS.grow _ HY.out hg.out) hlt
      have r_tr := qq
      clear qq
      have hx : xss[k]? = some (pbAt xss k) := pbAt_at (by rw [LX.out]; exact hlt)
      generalize pbAt xss k = x at *
      have HL := Lib.hid (HSM.out x (List.mem_of_getElem? hx))
      have i1 : (k : Int) < (n : Int) := by omega
      have QT := Lib.hid q_tr
      have RT := Lib.hid r_tr
      have Q0 := Lib.hid q0
      have R0 := Lib.hid r0
      have Q1 := Lib.hid q1
      have R1 := Lib.hid r1
      have Q2 := Lib.hid q2
      have R2 := Lib.hid r2
      clear q_tr r_tr hx q0 r0 q1 r1 q2 r2
      go_wp2_with fail
      refine region_grow [isV (.slice (some ⟨b, o, none⟩) n c), isV (.int .i64 k), isV (.pointer (some ⟨b, o + k * 3, none⟩)), isV (.agg #[.slice X0 x.ts.length x0, .slice X1 x.cs.length x1, .slice X2 x.ds.length x2]), isV (.slice (some ⟨b', o', none⟩) n d), isV (.int .i64 k), isV (.pointer (some ⟨b', o' + k * 3, none⟩)), isV (.agg #[.slice Y0 x.ts.length y0, .slice Y1 x.cs.length y1, .slice Y2 x.ds.length y2]), isV (.bool true), isV (.bool false)] (by kernel_rfl) (by kernel_rfl) (by kernel_rfl) (by simp [stables, isV_st]) ?_ ?_
      · simp only [hops, and_true]
        refine ⟨?_, ?_, ?_, ?_, ?_, ?_, ?_, ?_, ?_, ?_⟩
        all_goals
          intro f w1 hG hd
          have k0 := gbk (gbT (gbD (gbR _ _)) hG) (Q0.out)
          have k1 := gbk (gbT (gbD (gbR _ _)) hG) (R0.out)
          have k2 := gbk (gbT (gbD (gbR _ _)) hG) (Q1.out)
          have k3 := gbk (gbT (gbD (gbR _ _)) hG) (R1.out)
          have k4 := gbk (gbT (gbD (gbR _ _)) hG) (Q2.out)
          have k5 := gbk (gbT (gbD (gbR _ _)) hG) (R2.out)
          simp [deps, tAt, isV] at hd
          first | simp [puts, dsts, Act.put, hd] | simp [puts, dsts, Act.put]
          clear hd
          go_wp2_with (first | (go_at_call 78; refine (eqPublic_k x _ _ _ (AggR.grow QT.out (gbT (gbD (gbR _ none)) hG)) (AggR.grow RT.out (gbT (gbD (gbR _ none)) hG)) HL.out).mono ?_; rintro e w6 ⟨rfl, hw⟩))
        all_goals exact ⟨_, rfl, by first | with_reducible exact gbR _ _ | exact hw, by first | (simp [tAt, isV]; done) | (simp [tAt, isV]; assumption)⟩
      intro f w5 hG hd
      simp [knows, tAt, isV] at hd
      obtain ⟨h0_, h1_, h2_, h3_, h4_, h5_, h6_, h7_, h8_, h9_⟩ := hd
      simp only [puts, dsts, Act.put, h0_, h1_, h2_, h3_, h4_, h5_, h6_, h7_, h8_, h9_, List.filterMap_cons, List.filterMap_nil, List.setIfInBounds_toArray, List.set_cons_zero, List.set_cons_succ]
      clear h0_ h1_ h2_ h3_ h4_ h5_ h6_ h7_ h8_ h9_
      have g5 := gbT (gbD (gbR _ none)) hG
      clear hG
      have G2 := Lib.hid (gbT hg.out g5)
      clear g5
      go_wp2_with fail
      go_roundw
      case rel => exact ⟨k + 1, by omega, by go_num, G2.out⟩
      case measure => simp [intOf]; omega
    · have hkn : k = n := by omega
      subst hkn
      go_wp2_with fail
      go_ret
      exact ⟨rfl, hg.out⟩
end Go.Proofs.Ythdfkiaoahpjpaa
