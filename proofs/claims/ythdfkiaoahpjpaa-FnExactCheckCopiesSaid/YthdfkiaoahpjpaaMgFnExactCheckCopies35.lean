/-
  The laws' helpers on slices of Publics, by what they read as (printed by wip/gen_pubsk.py).
-/
import Derived.Test.YthdfkiaoahpjpaaMgFnExactCheckCopies34
namespace Go.Proofs.Ythdfkiaoahpjpaa
open Go.RowKit
set_option linter.unusedVariables false
set_option linter.unusedSimpArgs false
theorem cints_nilP (w : World) : (cints []).own w [] (.slice none 0 0) := cints_own (w := w) (base := 0) (n := 0) (World.ownsRow_nil _ _ _ _)
theorem ownAll_nils (w : World) : ∀ n : Nat, OwnAll w (List.replicate n (cints [])) (List.replicate n (.slice none 0 0)) (List.replicate n [])
  | 0 => OwnAll.nil w
  | n + 1 => by
    rw [List.replicate_succ, List.replicate_succ, List.replicate_succ]
    exact OwnAll.cons (cints_nilP w) (ownAll_nils w n) (by simp)
theorem flat_rep_nil {α : Type} (n : Nat) : (List.replicate n ([] : List α)).flatten = [] := by
  induction n with
  | zero => rfl
  | succ n ih => rw [List.replicate_succ, List.flatten_cons, ih]; rfl
def setL : List CS → Nat → List CS → List CS
  | cs, _, [] => cs
  | cs, k, d :: ds => setL (cs.set k d) (k + 1) ds
theorem setL_get : ∀ (ds cs : List CS) (k j : Nat), k + ds.length ≤ cs.length → (setL cs k ds)[j]? = if k ≤ j ∧ j < k + ds.length then ds[j - k]? else cs[j]?
  | [], cs, k, j, h => by rw [if_neg (by simp only [List.length_nil]; omega), setL]
  | d :: ds, cs, k, j, h => by
    rw [List.length_cons] at h
    rw [setL, setL_get ds _ (k + 1) j (by rw [List.length_set]; omega), List.length_cons]
    by_cases e : j = k
    · subst e
      rw [if_neg (by omega), if_pos (by omega), Nat.sub_self, List.getElem?_set, if_pos rfl, if_pos (by omega)]
      rfl
    · by_cases h1 : k + 1 ≤ j ∧ j < k + 1 + ds.length
      · rw [if_pos h1, if_pos (by omega), show j - k = (j - (k + 1)) + 1 by omega, List.getElem?_cons_succ]
      · rw [if_neg h1, if_neg (by omega), List.getElem?_set, if_neg (fun h => e h.symm)]
theorem flat_setL {α : Type} {sz : Nat} {F : α → List CS} (hF : ∀ x, (F x).length = sz) (hs : 0 < sz) (xs : List α) (i : Nat) (hi : i < xs.length) (x : α) : setL (xs.flatMap F) (i * sz) (F x) = (xs.set i x).flatMap F := by
  have hlen : (xs.flatMap F).length = xs.length * sz := flat_len (sz := sz) hF xs
  have hle : i * sz + sz ≤ xs.length * sz := by
    have := Nat.mul_le_mul_right sz (show i + 1 ≤ xs.length by omega)
    rwa [Nat.succ_mul] at this
  apply List.ext_getElem?
  intro m
  rw [setL_get _ _ _ _ (by rw [hlen, hF]; exact hle), flat_get' hF hs xs, flat_get' hF hs (xs.set i x), hF]
  have hm := Nat.mod_lt m hs
  have hdm := Nat.div_add_mod m sz
  rw [Nat.mul_comm] at hdm
  by_cases e : m / sz = i
  · subst e
    rw [if_pos (by omega), List.getElem?_set, if_pos rfl, if_pos hi, show m - m / sz * sz = m % sz by omega]
    rfl
  · rw [if_neg, List.getElem?_set, if_neg (fun h => e h.symm)]
    intro h
    apply e
    have h1 : m < (i + 1) * sz := by rw [Nat.succ_mul]; omega
    have h2 := (Nat.div_lt_iff_lt_mul hs).2 h1
    have h3 := (Nat.le_div_iff_mul_le hs).2 h.1
    omega
theorem row_sets {e : TypeId} {s g n c : Nat} : ∀ (ds : List CS) (us : List Value) (Fs : List (List Nat)) (cs : List CS) (w : World) (F : List Nat) (k : Nat), (row e s cs).own w F (.slice (some ⟨g, 0, none⟩) n c) → k + ds.length ≤ cs.length → OwnAll w ds us Fs → (∀ y ∈ Fs.flatten, y ∉ F) →
    ∃ F', (row e s (setL cs k ds)).own (setCells w g k us) F' (.slice (some ⟨g, 0, none⟩) n c) ∧ ∀ y ∈ F', y ∈ F ∨ y ∈ Fs.flatten
  | [], us, Fs, cs, w, F, k, h, hk, ho, hd => by
    have : us = [] := List.eq_nil_of_length_eq_zero ho.lv
    subst this
    exact ⟨F, h, fun y hy => .inl hy⟩
  | d :: ds, us, Fs, cs, w, F, k, h, hk, ho, hd => by
    obtain ⟨u, vs, F0, Gs, rfl, rfl, o0, o1, dj⟩ := ho.head
    rw [List.length_cons] at hk
    rw [List.flatten_cons] at hd ⊢
    have hgF : g ∈ F := row_ob h rfl
    obtain ⟨F1, k1, k2⟩ := row_set (i := k) h (by omega) o0 (fun y hy => hd y (List.mem_append_left _ hy))
    have o2 : OwnAll (w.setCell ⟨g, k, none⟩ u) ds vs Gs := o1.kept fun x hx => (chgS w g k u).block x (o1.lt x hx) (fun e => hd x (List.mem_append_right _ hx) (e ▸ hgF))
    obtain ⟨F2, m1, m2⟩ := row_sets ds vs Gs (cs.set k d) _ F1 (k + 1) k1 (by rw [List.length_set]; omega) o2 (fun y hy hy' => by
      rcases k2 y hy' with h6 | h6
      · exact hd y (List.mem_append_right _ hy) h6
      · exact dj y h6 hy)
    refine ⟨F2, m1, fun y hy => ?_⟩
    rcases m2 y hy with h6 | h6
    · rcases k2 y h6 with h7 | h7
      · exact .inl h7
      · exact .inr (List.mem_append_left _ h7)
    · exact .inr (List.mem_append_right _ h6)
theorem cpubs_set {vs : List PbM} {g n c : Nat} {F : List Nat} {w : World} (h : (cpubs vs).own w F (.slice (some ⟨g, 0, none⟩) n c)) {i : Nat} (hi : i < vs.length) {x : PbM} {us : List Value} {Fx : List Nat} (hx : AggO w (cpb x) Fx (.agg us.toArray)) (hd : ∀ y ∈ Fx, y ∉ F) :
    ∃ F', (cpubs (vs.set i x)).own (setCells w g (i * 3) us) F' (.slice (some ⟨g, 0, none⟩) n c) ∧ ∀ y ∈ F', y ∈ F ∨ y ∈ Fx := by
  obtain ⟨ts, Fs, e, ho, rfl⟩ := hx
  injection e with e
  have e : us = ts := by have := congrArg Array.toList e; simpa using this
  subst e
  have hlen : (vs.flatMap cpb).length = vs.length * 3 := flat_len (sz := 3) (fun _ => rfl) vs
  obtain ⟨F', k1, k2⟩ := row_sets (cpb x) us Fs (vs.flatMap cpb) w F (i * 3) h (by rw [hlen]; show i * 3 + 3 ≤ _; omega) ho hd
  rw [flat_setL (sz := 3) (fun _ => rfl) (by omega) vs i hi x] at k1
  exact ⟨F', k1, k2⟩
theorem cpubs_el {xs : List PbM} {w : World} {F : List Nat} {g n c : Nat} (h : (cpubs xs).own w F (.slice (some ⟨g, 0, none⟩) n c)) {i : Nat} (hi : i < xs.length) (j : Nat) (hj : j < 3) :
    ∃ u, w.cell? ⟨g, i * 3 + j, none⟩ = some u ∧ w.frozen? ⟨g, i * 3 + j, none⟩ = false := by
  have hlen : (xs.flatMap cpb).length = xs.length * 3 := flat_len (sz := 3) (fun _ => rfl) xs
  have h0 : i * 3 + j < (xs.flatMap cpb).length := by rw [hlen]; omega
  obtain ⟨u0, F0, a1, a2, _⟩ := row_cell h (List.getElem?_eq_getElem h0)
  exact ⟨u0, a1, a2⟩
def noP : PbM := ⟨[], [], []⟩
theorem flat_noP (n : Nat) : (List.replicate n noP).flatMap cpb = List.replicate (n * 3) (cints []) := by
  induction n with
  | zero => rfl
  | succ n ih =>
    rw [List.replicate_succ, List.flatMap_cons, ih, show (n + 1) * 3 = n * 3 + 1 + 1 + 1 by omega]
    simp only [List.replicate_succ]
    rfl
theorem toList_made_three (z : Value) (n : Nat) : (madeCells #[z, z, z] (n * 3)).toList = List.replicate (n * 3) z := by
  apply List.ext_getElem?
  intro j
  by_cases hj : j < n * 3
  · have h2 : j % 3 = 0 ∨ j % 3 = 1 ∨ j % 3 = 2 := by omega
    rcases h2 with h2 | h2 | h2 <;> simp [madeCells, hj, h2]
  · simp [madeCells, hj]
theorem cpubs_made {w : World} {g n : Nat} {lo : Nat} (h : w.ownsRow lo 70 3 (.slice (some ⟨g, 0, none⟩) n n) n (List.replicate (n * 3) (.slice none 0 0))) : (cpubs (List.replicate n noP)).own w [g] (.slice (some ⟨g, 0, none⟩) n n) := by
  refine ⟨n, _, List.replicate (n * 3) [], ?_, own_base h (Nat.zero_le _), ?_, ?_, by simp⟩
  · rw [flat_noP, List.length_replicate]
  · rw [flat_noP]; exact ownAll_nils w _
  · rw [flat_rep_nil]; rfl
theorem cpb_oform {w : World} {m : PbM} {F : List Nat} {v : Value} (h : AggO w (cpb m) F v) : ∃ (A0 A1 A2 : Option Addr) (n0 s0 n1 s1 n2 s2 : Nat), v = .agg #[.slice A0 n0 s0, .slice A1 n1 s1, .slice A2 n2 s2] := by
  obtain ⟨A, a, B, b, C, c, rfl, _⟩ := cpb_open (AggO.rd h)
  exact ⟨_, _, _, _, _, _, _, _, _, rfl⟩
def puS (xs : List PbM) (k : Nat) : Nat := ((xs.take k).map PbM.sz).sum
theorem puS_zero (xs : List PbM) : puS xs 0 = 0 := by simp [puS]
theorem puS_succ (xs : List PbM) (k : Nat) (x : PbM) (h : xs[k]? = some x) : puS xs (k + 1) = puS xs k + x.sz := by
  obtain ⟨hk, rfl⟩ := List.getElem?_eq_some_iff.1 h
  unfold puS
  rw [List.take_succ_eq_append_getElem hk, List.map_append, List.sum_append]
  simp
theorem puS_mono (xs : List PbM) {j k : Nat} (h : j ≤ k) : puS xs j ≤ puS xs k := by
  induction k with
  | zero =>
    have : j = 0 := by omega
    subst this; exact Nat.le_refl _
  | succ k ih =>
    by_cases e : j = k + 1
    · subst e; exact Nat.le_refl _
    · have h1 := ih (by omega)
      cases hk : xs[k]? with
      | some x => rw [puS_succ xs k x hk]; omega
      | none =>
        have hl : xs.length ≤ k := by simpa using hk
        have : puS xs (k + 1) = puS xs k := by unfold puS; rw [List.take_of_length_le (by omega), List.take_of_length_le (by omega)]
        omega
def szP (xs : List PbM) : Nat := xs.length + puS xs xs.length
theorem len_puS (xs : List PbM) (x : PbM) (h : x ∈ xs) : x.sz ≤ puS xs xs.length := by
  obtain ⟨j, hj, rfl⟩ := List.getElem_of_mem h
  have h1 := puS_succ xs j _ (List.getElem?_eq_getElem hj)
  have h2 := puS_mono xs (show j + 1 ≤ xs.length by omega)
  omega
def fitP (xs : List PbM) : Prop := xs.length ≤ 1048576 ∧ (∀ x ∈ xs, x.fit) ∧ puS xs xs.length ≤ 16777216
theorem fitP_of {xs : List PbM} (h : szP xs ≤ 1048576) : fitP xs := by
  unfold szP at h
  exact ⟨by omega, fun x hx => PbM.sz_fit (by have := len_puS xs x hx; omega), by omega⟩
set_option maxHeartbeats 400000 in
theorem szPublicS_z (xss : List PbM) (v : Value) (l : Nat) (w : World) (h : (cpubs xss).rd w v) (hl : l ≤ 1048576) :
    Calls Try.prog 38 #[v, .int .i64 l] w fun e w' => e = .returned (.int .i64 (szO l (szP xss))) ∧ w.grownBy w' none := by
  obtain ⟨A, c, rfl, hc, hm⟩ := cps_rd h
  have HX := Lib.hid h
  unfold maxLen at hm
  unfold szP
  obtain ⟨n, hn⟩ : ∃ n, xss.length = n := ⟨_, rfl⟩
  rw [hn] at hc HX ⊢
  have LX := Lib.hid hn
  clear h hn
  by_cases hbig : l < n
  · have h' : (l : Int) - (n : Int) < 0 := by omega
    have HB := Lib.hid hbig
    clear hbig
    go_enter Try.func38, Try.ntmps38
    go_wp2_with fail
    go_ret
    have := HB.out
    exact ⟨retI (szO_no (by omega)).symm, gbR _ _⟩
  · have h' : ¬ ((l : Int) - (n : Int) < 0) := by omega
    go_enter Try.func38, Try.ntmps38
    go_wp2_with fail
    go_loopw [1, 5] (fun s i wr => ∃ k q : Nat, k ≤ n ∧ i = .int .i64 k ∧ s = .int .i64 q ∧ q ≤ l ∧ Hid (q + n + puS xss k = l) ∧ Hid (w.grownBy wr none)) (fun _ i _ => n - (intOf i).toNat)
    case atStart => exact ⟨0, l - n, Nat.zero_le _, rfl, by go_num, by omega, by unfold Hid; rw [puS_zero]; omega, gbR _ _⟩
    case round =>
      obtain ⟨k, q, hk, rfl, rfl, hql, hq, hG⟩ := hrel
      by_cases hlt : k < n
      · obtain ⟨b, o, X0, X1, X2, x0, x1, x2, rfl, _, q0, q1, q2, qq⟩ := cpubs_at (CS.grow _ HX.out hG.out) hlt
        have hx : xss[k]? = some (pbAt xss k) := pbAt_at (by rw [LX.out]; exact hlt)
        have q_tr := qq
        clear qq
        generalize pbAt xss k = x at *
        have HS := Lib.hid (puS_succ xss k x hx)
        have HM := Lib.hid (puS_mono xss (show k + 1 ≤ n by omega))
        have Q2 := Lib.hid q_tr
        have i1 : (k : Int) < (n : Int) := by omega
        clear hx q_tr
        obtain ⟨rl, hrl⟩ : ∃ r, x.sz = r := ⟨_, rfl⟩
        have HRL := Lib.hid hrl
        rw [hrl] at HS
        clear hrl
        by_cases hfit : rl ≤ q
        · have HF := Lib.hid (szO_yes hfit)
          go_wp2_with fail
          refine (szPublic_k x _ q _ Q2.out (by omega)).mono ?_
          rintro e w1 ⟨rfl, g⟩
          rw [HRL.out, HF.out]
          have G1 := Lib.hid (gbT hG.out g)
          have h'' : ¬ (((q - rl : Nat) : Int) < 0) := by omega
          clear g
          go_wp2_with fail
          go_roundw
          case rel => exact ⟨k + 1, q - rl, by omega, by go_num, rfl, by omega, by have h1 := HS.out; have h2 := hq.out; unfold Hid; omega, G1.out⟩
          case measure => simp [intOf]; omega
        · have HF := Lib.hid (szO_no (Nat.lt_of_not_le hfit))
          go_wp2_with fail
          refine (szPublic_k x _ q _ Q2.out (by omega)).mono ?_
          rintro e w1 ⟨rfl, g⟩
          rw [HRL.out, HF.out]
          have G1 := Lib.hid (gbT hG.out g)
          clear g
          go_wp2_with fail
          go_ret
          have h1 := HS.out; have h2 := hq.out; have h3 := HM.out
          exact ⟨retI (szO_no (by omega)).symm, G1.out⟩
      · have hkn : k = n := by omega
        subst hkn
        go_wp2_with fail
        go_ret
        have h2 := hq.out
        exact ⟨retI (by rw [szO_yes (by omega)]; omega), hG.out⟩
set_option maxRecDepth 100000 in
set_option maxHeartbeats 800000 in
theorem eqPublicS_z (xss : List PbM) (v u : Value) (w : World) (h : (cpubs xss).rd w v) (k : (cpubs xss).rd w u) (hs : fitP xss) :
    Calls Try.prog 31 #[v, u] w fun e w' => e = .returned (.bool true) ∧ w.grownBy w' none := by
  obtain ⟨A, c, rfl, hc, hm⟩ := cps_rd h
  obtain ⟨B, d, rfl, hd, hm'⟩ := cps_rd k
  have HX := Lib.hid h
  have HY := Lib.hid k
  have HSM : Hid (∀ x ∈ xss, x.fit) := Lib.hid hs.2.1
  have hn : xss.length ≤ 1048576 := hs.1
  obtain ⟨n, hnn⟩ : ∃ n, xss.length = n := ⟨_, rfl⟩
  rw [hnn] at hc hd hn HX HY ⊢
  have LX := Lib.hid hnn
  clear h k hs hnn
  have hd : ((n : Int) != (n : Int)) = false := by simp
  go_enter Try.func31, Try.ntmps31
  go_wp2_with fail
  go_loopw [5] (fun i wr => ∃ k : Nat, k ≤ n ∧ i = .int .i64 k ∧ Hid (w.grownBy wr none)) (fun i _ => n - (intOf i).toNat)
  case atStart => exact ⟨0, Nat.zero_le _, rfl, gbR _ _⟩
  case round =>
    obtain ⟨k, hk, rfl, hg⟩ := hrel
    by_cases hlt : k < n
    · obtain ⟨b, o, X0, X1, X2, x0, x1, x2, rfl, _, q0, q1, q2, qq⟩ := cpubs_at (CS.grow _ HX.out hg.out) hlt
      have q_tr := qq
      clear qq
      obtain ⟨b', o', Y0, Y1, Y2, y0, y1, y2, rfl, _, r0, r1, r2, qq⟩ := cpubs_at (CS.grow _ HY.out hg.out) hlt
      have r_tr := qq
      clear qq
      have hx : xss[k]? = some (pbAt xss k) := pbAt_at (by rw [LX.out]; exact hlt)
      generalize pbAt xss k = x at *
      have HL := Lib.hid (HSM.out x (List.mem_of_getElem? hx))
      have i1 : (k : Int) < (n : Int) := by omega
      have QT := Lib.hid q_tr
      have RT := Lib.hid r_tr
      have Q0 := Lib.hid q0
      have R0 := Lib.hid r0
      have Q1 := Lib.hid q1
      have R1 := Lib.hid r1
      have Q2 := Lib.hid q2
      have R2 := Lib.hid r2
      clear q_tr r_tr hx q0 r0 q1 r1 q2 r2
      go_wp2_with fail
      refine region_grow [isV (.slice (some ⟨b, o, none⟩) n c), isV (.int .i64 k), isV (.pointer (some ⟨b, o + k * 3, none⟩)), isV (.agg #[.slice X0 x.ts.length x0, .slice X1 x.cs.length x1, .slice X2 x.ds.length x2]), isV (.slice (some ⟨b', o', none⟩) n d), isV (.int .i64 k), isV (.pointer (some ⟨b', o' + k * 3, none⟩)), isV (.agg #[.slice Y0 x.ts.length y0, .slice Y1 x.cs.length y1, .slice Y2 x.ds.length y2]), isV (.bool true), isV (.bool false)] (by kernel_rfl) (by kernel_rfl) (by kernel_rfl) (by simp [stables, isV_st]) ?_ ?_
      · simp only [hops, and_true]
        refine ⟨?_, ?_, ?_, ?_, ?_, ?_, ?_, ?_, ?_, ?_⟩
        all_goals
          intro f w1 hG hd
          have k0 := gbk (gbT (gbD (gbR _ _)) hG) (Q0.out)
          have k1 := gbk (gbT (gbD (gbR _ _)) hG) (R0.out)
          have k2 := gbk (gbT (gbD (gbR _ _)) hG) (Q1.out)
          have k3 := gbk (gbT (gbD (gbR _ _)) hG) (R1.out)
          have k4 := gbk (gbT (gbD (gbR _ _)) hG) (Q2.out)
          have k5 := gbk (gbT (gbD (gbR _ _)) hG) (R2.out)
          simp [deps, tAt, isV] at hd
          first | simp [puts, dsts, Act.put, hd] | simp [puts, dsts, Act.put]
          clear hd
          go_wp2_with (first | (go_at_call 78; refine (eqPublic_k x _ _ _ (AggR.grow QT.out (gbT (gbD (gbR _ none)) hG)) (AggR.grow RT.out (gbT (gbD (gbR _ none)) hG)) HL.out).mono ?_; rintro e w6 ⟨rfl, hw⟩))
        all_goals exact ⟨_, rfl, by first | with_reducible exact gbR _ _ | exact hw, by first | (simp [tAt, isV]; done) | (simp [tAt, isV]; assumption)⟩
      intro f w5 hG hd
      simp [knows, tAt, isV] at hd
      obtain ⟨h0_, h1_, h2_, h3_, h4_, h5_, h6_, h7_, h8_, h9_⟩ := hd
      simp only [puts, dsts, Act.put, h0_, h1_, h2_, h3_, h4_, h5_, h6_, h7_, h8_, h9_, List.filterMap_cons, List.filterMap_nil, List.setIfInBounds_toArray, List.set_cons_zero, List.set_cons_succ]
      clear h0_ h1_ h2_ h3_ h4_ h5_ h6_ h7_ h8_ h9_
      have g5 := gbT (gbD (gbR _ none)) hG
      clear hG
      have G2 := Lib.hid (gbT hg.out g5)
      clear g5
      go_wp2_with fail
      go_roundw
      case rel => exact ⟨k + 1, by omega, by go_num, G2.out⟩
      case measure => simp [intOf]; omega
    · have hkn : k = n := by omega
      subst hkn
      go_wp2_with fail
      go_ret
      exact ⟨rfl, hg.out⟩
set_option maxHeartbeats 800000 in
theorem toPublicS_z (xss : List PbM) (v : Value) (w : World) (h : (cpubs xss).rd w v) (hs : fitP xss) :
    Calls Try.prog 40 #[v] w fun e w' => ∃ u F, e = .returned u ∧ (cpubs xss).own w' F u ∧ (∀ g ∈ F, w.heap.size ≤ g) ∧ w.grownBy w' none := by
  obtain ⟨A, c, rfl, hc, hm⟩ := cps_rd h
  have HX := Lib.hid h
  have HSM : Hid (∀ x ∈ xss, x.fit) := Lib.hid hs.2.1
  have hn : xss.length ≤ 1048576 := hs.1
  obtain ⟨n, hnn⟩ : ∃ n, xss.length = n := ⟨_, rfl⟩
  rw [hnn] at hc hn HX ⊢
  have LX := Lib.hid hnn
  clear h hs hnn
  go_enter Try.func40, Try.ntmps40
  go_wp2_with (at_make; refine wp_makeN _ elPublic rfl _ _ rfl n rfl rfl (by omega) (by unfold maxLen; omega) ?_; intro w1 hown1 hg1)
  rw [show (Value.agg #[.slice none 0 0, .slice none 0 0, .slice none 0 0]).cells = #[.slice none 0 0, .slice none 0 0, .slice none 0 0] from rfl, toList_made_three] at hown1
  have O1 := Lib.hid (cpubs_made hown1)
  have G1 := Lib.hid hg1
  clear hown1 hg1
  go_loopw [4] (fun i wr => ∃ k : Nat, k ≤ n ∧ i = .int .i64 k ∧ Hid (∃ F, (cpubs (xss.take k ++ List.replicate (n - k) noP)).own wr F (.slice (some ⟨w.heap.size, 0, none⟩) n n) ∧ ∀ g ∈ F, w.heap.size ≤ g) ∧ Hid (w.grownBy wr none)) (fun i _ => n - (intOf i).toNat)
  case atStart => exact ⟨0, Nat.zero_le _, rfl, ⟨_, by simpa using O1.out, by simp⟩, G1.out⟩
  case round =>
    clear O1 G1
    obtain ⟨k, hk, rfl, hown, hg⟩ := hrel
    by_cases hlt : k < n
    · obtain ⟨b, o, X0, X1, X2, x0, x1, x2, rfl, _, q0, q1, q2, qq⟩ := cpubs_at (CS.grow _ HX.out hg.out) hlt
      have hx : xss[k]? = some (pbAt xss k) := pbAt_at (by rw [LX.out]; exact hlt)
      have q_tr := qq
      clear qq
      generalize pbAt xss k = x at *
      have HL := Lib.hid (HSM.out x (List.mem_of_getElem? hx))
      have Q2 := Lib.hid q_tr
      have HXk := Lib.hid hx
      have i1 : (k : Int) < (n : Int) := by omega
      clear q_tr hx
      go_wp2_with fail
      refine (toPublic_k x _ _ Q2.out HL.out).mono ?_
      rintro e w2 ⟨u', F', rfl, o2, l2, g2⟩
      obtain ⟨B0, B1, B2, m0, d0, m1, d1, m2, d2, rfl⟩ := cpb_oform o2
      obtain ⟨F, hF, hFl⟩ := hown.out
      have hF2 := own_growK _ hF g2
      have hlen : (xss.take k ++ List.replicate (n - k) noP).length = n := by have := LX.out; simp; omega
      obtain ⟨_, e0, f0⟩ := cpubs_el hF2 (i := k) (by rw [hlen]; exact hlt) 0 (by omega)
      obtain ⟨_, e1, f1⟩ := cpubs_el hF2 (i := k) (by rw [hlen]; exact hlt) 1 (by omega)
      obtain ⟨_, e2, f2⟩ := cpubs_el hF2 (i := k) (by rw [hlen]; exact hlt) 2 (by omega)
      simp only [Nat.add_zero] at e0 f0
      obtain ⟨F2, k1, k2⟩ := cpubs_set hF2 (i := k) (by rw [hlen]; exact hlt) (us := [(.slice B0 m0 d0), (.slice B1 m1 d1), (.slice B2 m2 d2)]) o2 (fun y hy hy' => by have h1 := l2 y hy; have h2 := CS.lt _ hF y hy'; omega)
      have hset : (xss.take k ++ List.replicate (n - k) noP).set k x = xss.take (k + 1) ++ List.replicate (n - (k + 1)) noP := by
        have hl := LX.out
        have hkl : k < xss.length := by omega
        have hxk : xss[k] = x := by have := HXk.out; rw [List.getElem?_eq_getElem hkl] at this; injection this
        rw [← hl, ← hxk, fillD_step noP xss k hkl]
      rw [hset] at k1
      have K1 : Hid (∃ F, (cpubs (xss.take (k + 1) ++ List.replicate (n - (k + 1)) noP)).own ((((w2).setCell ⟨w.heap.size, k * 3, none⟩ (.slice B0 m0 d0)).setCell ⟨w.heap.size, k * 3 + 1, none⟩ (.slice B1 m1 d1)).setCell ⟨w.heap.size, k * 3 + 2, none⟩ (.slice B2 m2 d2)) F (.slice (some ⟨w.heap.size, 0, none⟩) n n) ∧ ∀ g ∈ F, w.heap.size ≤ g) := ⟨F2, k1, fun g hg' => by
        rcases k2 g hg' with h3 | h3
        · exact hFl g h3
        · have := l2 g h3; have := hg.out.size; omega⟩
      have G2 := Lib.hid (gbS (gbS (gbS (gbT hg.out g2) (p := ⟨w.heap.size, k * 3, none⟩) (Nat.le_refl _) (.slice B0 m0 d0)) (p := ⟨w.heap.size, k * 3 + 1, none⟩) (Nat.le_refl _) (.slice B1 m1 d1)) (p := ⟨w.heap.size, k * 3 + 2, none⟩) (Nat.le_refl _) (.slice B2 m2 d2))
      clear hF hF2 hFl hset k1 k2 o2 l2 g2 hown hlen
      go_wp2_with fail
      go_roundw
      case rel => exact ⟨k + 1, by omega, by go_num, K1.out, G2.out⟩
      case measure => simp [intOf]; omega
    · have hkn : k = n := by omega
      subst hkn
      go_wp2_with fail
      go_ret
      obtain ⟨F, hF, hFl⟩ := hown.out
      have hl := LX.out
      rw [Nat.sub_self, List.replicate_zero, List.append_nil, List.take_of_length_le (by omega)] at hF
      exact ⟨_, F, rfl, hF, hFl, hg.out⟩
end Go.Proofs.Ythdfkiaoahpjpaa
