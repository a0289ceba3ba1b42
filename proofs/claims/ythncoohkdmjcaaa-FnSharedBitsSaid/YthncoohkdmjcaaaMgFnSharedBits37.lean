/-
  The laws' helpers on slices of slices of blocks, by what they read as.
-/
import Derived.Test.YthncoohkdmjcaaaMgFnSharedBits16
namespace Go.Proofs.Ythncoohkdmjcaaa
open Go.RowKit
set_option linter.unusedVariables false
set_option linter.unusedSimpArgs false
abbrev Bks := List (Int × Int)
abbrev cblockss (xss : List Bks) : CS := lst 34 1 (fun l => [cblocks l]) xss
theorem elBlockS : El Try.prog 33 34 (.slice none 0 0) 1 24 := ⟨Try.underlying33, by kernel_rfl, rfl, by decide⟩
def sumL (xss : List Bks) (k : Nat) : Nat := ((xss.take k).map List.length).sum
theorem sumL_zero (xss : List Bks) : sumL xss 0 = 0 := by simp [sumL]
theorem sumL_succ (xss : List Bks) (k : Nat) (x : Bks) (h : xss[k]? = some x) : sumL xss (k + 1) = sumL xss k + x.length := by
  obtain ⟨hk, rfl⟩ := List.getElem?_eq_some_iff.1 h
  unfold sumL
  rw [List.take_succ_eq_append_getElem hk, List.map_append, List.sum_append]
  simp
theorem sumL_mono (xss : List Bks) {j k : Nat} (h : j ≤ k) : sumL xss j ≤ sumL xss k := by
  induction k with
  | zero => have : j = 0 := by omega
            subst this; exact Nat.le_refl _
  | succ k ih =>
    by_cases e : j = k + 1
    · subst e; exact Nat.le_refl _
    · have h1 := ih (by omega)
      cases hk : xss[k]? with
      | some x => rw [sumL_succ xss k x hk]; omega
      | none =>
        have hl : xss.length ≤ k := by simpa using hk
        have : sumL xss (k + 1) = sumL xss k := by unfold sumL; rw [List.take_of_length_le (by omega), List.take_of_length_le (by omega)]
        omega
theorem cbs_at {w : World} {xss : List Bks} {A : Option Addr} {n c : Nat} (h : (cblockss xss).rd w (.slice A n c)) {k : Nat} (hk : k < n) :
    ∃ (b o : Nat) (x : Bks) (u : Value), A = some ⟨b, o, none⟩ ∧ b < w.heap.size ∧ xss[k]? = some x ∧ w.cell? ⟨b, o + k, none⟩ = some u ∧ (cblocks x).rd w u := by
  obtain ⟨b, o, x, e, hb, hx, hc⟩ := lst_at (s := 1) (fun _ => rfl) (by omega) h hk
  obtain ⟨u, h1, h2⟩ := hc 0 _ rfl
  exact ⟨b, o, x, u, e, hb, hx, by rw [Nat.mul_one, Nat.add_zero] at h1; exact h1, h2⟩
theorem cbs_flat (xss : List Bks) : xss.flatMap (fun l => [cblocks l]) = xss.map cblocks := flat_one _ xss
theorem cbs_rd {w : World} {xss : List Bks} {v : Value} (h : (cblockss xss).rd w v) : ∃ A c, v = .slice A xss.length c ∧ xss.length ≤ c ∧ c ≤ maxLen := by
  obtain ⟨A, c, vs, h1, h2, h3, _⟩ := lst_rd (s := 1) (fun _ => rfl) (by omega) h
  exact ⟨A, c, h1, h2, h3⟩
theorem cblocks_nil (w : World) : (cblocks []).own w [] (.slice none 0 0) := by
  have := plst_own (f := c2) (xs := []) (s := 2) (fun _ => rfl) (by omega) c2_one (World.ownsRow_nil w 0 90 2)
  simpa [Value.ownBlock] using this
theorem cbs_made {w : World} {base n g c : Nat} (h : w.ownsRow base 34 1 (.slice (some ⟨g, 0, none⟩) n c) n (List.replicate n (.slice none 0 0))) : (cblockss (List.replicate n [])).own w [g] (.slice (some ⟨g, 0, none⟩) n c) := by
  refine ⟨n, _, List.replicate n [], ?_, own_base h (Nat.zero_le _), ?_, ?_, by simp⟩
  · rw [cbs_flat]; simp
  · rw [cbs_flat]
    refine ⟨by simp, by simp, fun i d u F hd hu hF => ?_, by simp⟩
    rw [List.getElem?_map, List.getElem?_replicate] at hd
    rw [List.getElem?_replicate] at hu hF
    split at hd
    · rename_i hi
      rw [if_pos hi] at hu hF
      injection hd with hd; injection hu with hu; injection hF with hF
      subst hd; subst hu; subst hF
      exact cblocks_nil w
    · cases hd
  · simp [Value.ownBlock]
set_option maxHeartbeats 400000 in
theorem szBlockSS_k (xss : List Bks) (v : Value) (l : Nat) (w : World) (h : (cblockss xss).rd w v) (hl : l ≤ 1048576) :
    Calls Try.prog 56 #[v, .int .i64 l] w fun e w' => e = .returned (.int .i64 (szO l (xss.length + sumL xss xss.length))) ∧ w.grownBy w' none := by
  obtain ⟨A, c, rfl, hc, hm⟩ := cbs_rd h
  have HX := Lib.hid h
  unfold maxLen at hm
  obtain ⟨n, hn⟩ : ∃ n, xss.length = n := ⟨_, rfl⟩
  rw [hn] at hc HX ⊢
  have LX := Lib.hid hn
  clear h hn
  by_cases hbig : l < n
  · have h' : (l : Int) - (n : Int) < 0 := by omega
    have HB := Lib.hid hbig
    clear hbig
    go_enter Try.func56, Try.ntmps56
    go_wp2_with fail
    go_ret
    have := HB.out
    exact ⟨retI (szO_no (by omega)).symm, gbR _ _⟩
  · have h' : ¬ ((l : Int) - (n : Int) < 0) := by omega
    go_enter Try.func56, Try.ntmps56
    go_wp2_with fail
    go_loopw [1, 5] (fun s i wr => ∃ k q : Nat, k ≤ n ∧ i = .int .i64 k ∧ s = .int .i64 q ∧ q ≤ l ∧ Hid (q + n + sumL xss k = l) ∧ Hid (w.grownBy wr none)) (fun _ i _ => n - (intOf i).toNat)
    case atStart => exact ⟨0, l - n, Nat.zero_le _, rfl, by go_num, by omega, by unfold Hid; rw [sumL_zero]; omega, gbR _ _⟩
    case round =>
      obtain ⟨k, q, hk, rfl, rfl, hql, hq, hG⟩ := hrel
      by_cases hlt : k < n
      · obtain ⟨b, o, x, u, rfl, hb, hx, q1, q2⟩ := cbs_at (CS.grow _ HX.out hG.out) hlt
        have HS := Lib.hid (sumL_succ xss k x hx)
        have HM := Lib.hid (sumL_mono xss (show k + 1 ≤ n by omega))
        have Q2 := Lib.hid q2
        have i1 : (k : Int) < (n : Int) := by omega
        clear hx q2
        generalize hrl : x.length = rl at *
        have HRL := Lib.hid hrl
        clear hrl
        by_cases hfit : rl ≤ q
        · have HF := Lib.hid (szO_yes hfit)
          go_wp2_with fail
          refine (szBlockS_k x u q _ Q2.out (by omega)).mono ?_
          rintro e w1 ⟨rfl, g⟩
          rw [HRL.out, HF.out]
          have G1 := Lib.hid (gbT hG.out g)
          have h'' : ¬ (((q - rl : Nat) : Int) < 0) := by omega
          clear g
          go_wp2_with fail
          go_roundw
          case rel => exact ⟨k + 1, q - rl, by omega, by go_num, rfl, by omega, by have h1 := HS.out; have h2 := hq.out; unfold Hid; omega, G1.out⟩
          case measure => simp [intOf]; omega
        · have HF := Lib.hid (szO_no (Nat.lt_of_not_le hfit))
          go_wp2_with fail
          refine (szBlockS_k x u q _ Q2.out (by omega)).mono ?_
          rintro e w1 ⟨rfl, g⟩
          rw [HRL.out, HF.out]
          have G1 := Lib.hid (gbT hG.out g)
          clear g
          go_wp2_with fail
          go_ret
          have h1 := HS.out; have h2 := hq.out; have h3 := HM.out
          exact ⟨retI (szO_no (by omega)).symm, G1.out⟩
      · have hkn : k = n := by omega
        subst hkn
        go_wp2_with fail
        go_ret
        have h2 := hq.out
        exact ⟨retI (by rw [szO_yes (by omega)]; omega), hG.out⟩
set_option maxRecDepth 100000 in
set_option maxHeartbeats 400000 in
theorem eqBlockSS_k (xss : List Bks) (v u : Value) (w : World) (h : (cblockss xss).rd w v) (k : (cblockss xss).rd w u) (hn : xss.length ≤ 1048576) (hs : ∀ x ∈ xss, x.length ≤ 1048576) :
    Calls Try.prog 61 #[v, u] w fun e w' => e = .returned (.bool true) ∧ w.grownBy w' none := by
  obtain ⟨A, c, rfl, hc, hm⟩ := cbs_rd h
  obtain ⟨B, d, rfl, hd, hm'⟩ := cbs_rd k
  have HX := Lib.hid h
  have HY := Lib.hid k
  have HSM := Lib.hid hs
  obtain ⟨n, hnn⟩ : ∃ n, xss.length = n := ⟨_, rfl⟩
  rw [hnn] at hc hd hn HX HY ⊢
  clear h k hs hnn
  have hd : ((n : Int) != (n : Int)) = false := by simp
  go_enter Try.func61, Try.ntmps61
  go_wp2_with fail
  go_loopw [5] (fun i wr => ∃ k : Nat, k ≤ n ∧ i = .int .i64 k ∧ Hid (w.grownBy wr none)) (fun i _ => n - (intOf i).toNat)
  case atStart => exact ⟨0, Nat.zero_le _, rfl, gbR _ _⟩
  case round =>
    obtain ⟨k, hk, rfl, hg⟩ := hrel
    by_cases hlt : k < n
    · obtain ⟨b, o, x, u1, rfl, hb, hx, q1, q2⟩ := cbs_at (CS.grow _ HX.out hg.out) hlt
      obtain ⟨b', o', x', u2, rfl, hb', hx', r1, r2⟩ := cbs_at (CS.grow _ HY.out hg.out) hlt
      obtain rfl : x = x' := by rw [hx] at hx'; injection hx'
      have HL := Lib.hid (HSM.out x (List.mem_of_getElem? hx))
      have i1 : (k : Int) < (n : Int) := by omega
      have Q2 := Lib.hid q2
      have R2 := Lib.hid r2
      clear q2 r2 hx hx'
      go_wp2_with fail
      go_still_tail 8, (by kernel_rfl)
      go_wp2_with fail
      refine (eqBlockS_k x u1 u2 _ (CS.grow _ Q2.out (gbD (gbR _ _))) (CS.grow _ R2.out (gbD (gbR _ _))) HL.out).mono ?_
      rintro e w2 ⟨rfl, g⟩
      have G2 := Lib.hid (gbT (gbD hg.out) g)
      clear g
      go_wp2_with fail
      go_roundw
      case rel => exact ⟨k + 1, by omega, by go_num, G2.out⟩
      case measure => simp [intOf]; omega
    · have hkn : k = n := by omega
      subst hkn
      go_wp2_with fail
      go_ret
      exact ⟨rfl, hg.out⟩
set_option maxHeartbeats 800000 in
theorem toBlockSS_k (xss : List Bks) (v : Value) (w : World) (h : (cblockss xss).rd w v) (hn : xss.length ≤ 1048576) (hs : ∀ x ∈ xss, x.length ≤ 1048576) :
    Calls Try.prog 59 #[v] w fun e w' => ∃ u F, e = .returned u ∧ (cblockss xss).own w' F u ∧ (∀ g ∈ F, w.heap.size ≤ g) ∧ w.grownBy w' none := by
  obtain ⟨A, c, rfl, hc, hm⟩ := cbs_rd h
  have HX := Lib.hid h
  have HSM := Lib.hid hs
  obtain ⟨n, hnn⟩ : ∃ n, xss.length = n := ⟨_, rfl⟩
  rw [hnn] at hc hn HX ⊢
  have LX := Lib.hid hnn
  clear h hs hnn
  go_enter Try.func59, Try.ntmps59
  go_wp2_with (at_make; refine wp_makeN _ elBlockS rfl _ _ rfl n rfl rfl (by omega) (by unfold maxLen; omega) ?_; intro w1 hown1 hg1; rw [show (Value.slice none 0 0).cells = #[.slice none 0 0] from rfl, made_one] at hown1)
  have O1 := Lib.hid (cbs_made hown1)
  have G1 := Lib.hid hg1
  clear hown1 hg1
  go_loopw [4] (fun i wr => ∃ k : Nat, k ≤ n ∧ i = .int .i64 k ∧ Hid (∃ F, (cblockss (xss.take k ++ List.replicate (n - k) [])).own wr F (.slice (some ⟨w.heap.size, 0, none⟩) n n) ∧ ∀ g ∈ F, w.heap.size ≤ g) ∧ Hid (w.grownBy wr none)) (fun i _ => n - (intOf i).toNat)
  case atStart => exact ⟨0, Nat.zero_le _, rfl, ⟨_, by simpa using O1.out, by simp⟩, G1.out⟩
  case round =>
    clear O1 G1
    obtain ⟨k, hk, rfl, hown, hg⟩ := hrel
    by_cases hlt : k < n
    · obtain ⟨b, o, x, u, rfl, hb, hx, q1, q2⟩ := cbs_at (CS.grow _ HX.out hg.out) hlt
      have HL := Lib.hid (HSM.out x (List.mem_of_getElem? hx))
      have Q2 := Lib.hid q2
      have HXk := Lib.hid hx
      have i1 : (k : Int) < (n : Int) := by omega
      clear q2 hx
      go_wp2_with fail
      refine (toBlockS_k x u _ Q2.out HL.out).mono ?_
      rintro e w2 ⟨u', F', rfl, o2, l2, g2⟩
      obtain ⟨B, m, d, rfl⟩ := row_form o2
      obtain ⟨F, hF, hFl⟩ := hown.out
      have hF2 := own_growK _ hF g2
      have hlen : (xss.take k ++ List.replicate (n - k) []).length = n := by have := LX.out; simp; omega
      have hk0 : ((xss.take k ++ List.replicate (n - k) []).flatMap fun l => [cblocks l])[k]? = some (cblocks []) := by
        rw [cbs_flat, List.getElem?_map, List.getElem?_append_right (by simp; omega)]
        have := LX.out
        simp [List.getElem?_replicate]
        omega
      obtain ⟨u0, F0, e1, e2, _⟩ := row_cell hF2 hk0
      obtain ⟨F2, k1, k2⟩ := row_set hF2 (i := k) (by rw [cbs_flat, List.length_map, hlen]; exact hlt) o2 (fun x hx hx' => by have h1 := l2 x hx; have h2 := CS.lt _ hF x hx'; omega)
      have hset : ((xss.take k ++ List.replicate (n - k) []).flatMap fun l => [cblocks l]).set k (cblocks x) = (xss.take (k + 1) ++ List.replicate (n - (k + 1)) []).flatMap fun l => [cblocks l] := by
        have hl := LX.out
        have hkl : k < xss.length := by omega
        have hxk : xss[k] = x := by have := HXk.out; rw [List.getElem?_eq_getElem hkl] at this; injection this
        rw [cbs_flat, cbs_flat, ← List.map_set, ← hl, ← hxk, fillD_step [] xss k hkl]
      rw [hset] at k1
      have K1 : Hid (∃ F, (cblockss (xss.take (k + 1) ++ List.replicate (n - (k + 1)) [])).own (w2.setCell ⟨w.heap.size, k, none⟩ (.slice B m d)) F (.slice (some ⟨w.heap.size, 0, none⟩) n n) ∧ ∀ g ∈ F, w.heap.size ≤ g) := ⟨F2, k1, fun g hg' => by
        rcases k2 g hg' with h3 | h3
        · exact hFl g h3
        · have := l2 g h3; have := hg.out.size; omega⟩
      have G2 := Lib.hid (gbS (gbT hg.out g2) (p := ⟨w.heap.size, k, none⟩) (Nat.le_refl _) (.slice B m d))
      clear hF hF2 hFl hset k1 k2 hk0 o2 l2 g2 hown hlen
      go_wp2_with fail
      go_roundw
      case rel => exact ⟨k + 1, by omega, by go_num, K1.out, G2.out⟩
      case measure => simp [intOf]; omega
    · have hkn : k = n := by omega
      subst hkn
      go_wp2_with fail
      go_ret
      obtain ⟨F, hF, hFl⟩ := hown.out
      have hl := LX.out
      rw [Nat.sub_self, List.replicate_zero, List.append_nil, List.take_of_length_le (by omega)] at hF
      exact ⟨_, F, rfl, hF, hFl, hg.out⟩
def mkSS (k : Int) : List Bks → List Bks
  | [] => []
  | l :: ls => mk2 k l.length :: mkSS (k + 2 * l.length) ls
theorem mkSS_len (xss : List Bks) : ∀ k, (mkSS k xss).length = xss.length := by
  induction xss with
  | nil => intro k; rfl
  | cons x xs ih => intro k; rw [mkSS, List.length_cons, ih, List.length_cons]
theorem mkSS_get (xss : List Bks) : ∀ (k : Int) (j : Nat), (mkSS k xss)[j]? = xss[j]?.map fun x => mk2 (k + 2 * (sumL xss j : Nat)) x.length := by
  induction xss with
  | nil => intro k j; simp [mkSS]
  | cons x xs ih =>
    intro k j
    cases j with
    | zero => simp [mkSS, sumL]
    | succ j =>
      rw [mkSS, List.getElem?_cons_succ, ih, List.getElem?_cons_succ]
      have : sumL (x :: xs) (j + 1) = x.length + sumL xs j := by simp [sumL]
      rw [this]
      cases xs[j]? with
      | none => rfl
      | some y => simp only [Option.map_some]; congr 2; omega
theorem mkSS_step (xss : List Bks) (k : Int) (j : Nat) (x : Bks) (h : xss[j]? = some x) : ((mkSS k xss).take j ++ xss.drop j).set j (mk2 (k + 2 * (sumL xss j : Nat)) x.length) = (mkSS k xss).take (j + 1) ++ xss.drop (j + 1) := by
  obtain ⟨hj, rfl⟩ := List.getElem?_eq_some_iff.1 h
  have hl := mkSS_len xss k
  have hg := mkSS_get xss k j
  rw [h] at hg
  rw [List.set_append_right _ _ (by simp; omega), List.length_take, Nat.min_eq_left (by omega), Nat.sub_self, List.drop_eq_getElem_cons hj, List.set_cons_zero]
  have hj' : j < (mkSS k xss).length := by omega
  rw [List.take_succ_eq_append_getElem hj', List.append_assoc]
  have : (mkSS k xss)[j] = mk2 (k + 2 * (sumL xss j : Nat)) (xss[j]).length := by
    rw [List.getElem?_eq_getElem hj'] at hg; simpa using hg
  rw [this]
  rfl
set_option maxHeartbeats 800000 in
theorem markBlockSS_k (xss : List Bks) (v : Value) (F : List Nat) (k0 : Int) (w : World) (h : (cblockss xss).own w F v) (hn : xss.length + sumL xss xss.length ≤ 1048576) (h0 : 0 ≤ k0) (h1 : k0 ≤ 274877906944) :
    Calls Try.prog 63 #[v, .int .i64 k0] w fun e w' => e = .returned (.int .i64 (k0 + 2 * (sumL xss xss.length : Nat))) ∧ (cblockss (mkSS k0 xss)).own w' F v ∧ Chg (fun g => g ∈ F) w w' := by
  obtain ⟨A, c, rfl, hc, hm⟩ := cbs_rd (CS.toRd _ h)
  have HX := Lib.hid h
  obtain ⟨n, hnn⟩ : ∃ n, xss.length = n := ⟨_, rfl⟩
  rw [hnn] at hc hn HX ⊢
  have LX := Lib.hid hnn
  unfold maxLen at hm
  clear h hnn
  go_enter Try.func63, Try.ntmps63
  go_wp2_with fail
  go_loopw [1, 5] (fun s i wr => ∃ j : Nat, j ≤ n ∧ i = .int .i64 j ∧ s = .int .i64 (k0 + 2 * (sumL xss j : Nat)) ∧ Hid ((cblockss ((mkSS k0 xss).take j ++ xss.drop j)).own wr F (.slice A n c)) ∧ Hid (Chg (fun g => g ∈ F) w wr)) (fun _ i _ => n - (intOf i).toNat)
  case atStart => exact ⟨0, Nat.zero_le _, rfl, by rw [sumL_zero]; go_num, by simpa [Hid] using HX.out, Chg.refl _ _⟩
  case round =>
    obtain ⟨j, hj, rfl, rfl, hown, hch⟩ := hrel
    by_cases hlt : j < n
    · have hF := hown.out
      have hjx : j < xss.length := by have := LX.out; omega
      have hx : xss[j]? = some xss[j] := List.getElem?_eq_getElem hjx
      have HS := Lib.hid (sumL_succ xss j _ hx)
      have HM := Lib.hid (sumL_mono xss (show j + 1 ≤ n by omega))
      have hst := mkSS_step xss k0 j _ hx
      generalize xss[j] = x at *
      have hlist : ((mkSS k0 xss).take j ++ xss.drop j)[j]? = some x := by
        rw [List.getElem?_append_right (by simp; omega), List.length_take, mkSS_len, Nat.min_eq_left (by omega), Nat.sub_self, List.getElem?_drop]
        simpa using hx
      obtain ⟨g, n', c', e1, hgF⟩ := row_own_slice (by omega) hF (by rw [cbs_flat, List.length_map]; exact Nat.lt_of_le_of_lt (Nat.zero_le j) (List.getElem?_eq_some_iff.1 hlist).1)
      injection e1 with e1 e2 e3
      subst e1; subst e2; subst e3
      have hd : (((mkSS k0 xss).take j ++ xss.drop j).flatMap fun l => [cblocks l])[j]? = some (cblocks x) := by rw [cbs_flat, List.getElem?_map, hlist]; rfl
      obtain ⟨u, Fi, q0, ho, hsub, hnext⟩ := row_inner2 hF hd
      have i1 : (j : Int) < (n : Int) := by omega
      have hb1 : sumL xss j + x.length ≤ 1048576 := by
        have h1 := HS.out; have h2 := HM.out; omega
      have HO := Lib.hid ho
      have HNX := Lib.hid hnext
      have HSUB := Lib.hid hsub
      have HST := Lib.hid hst
      clear hx hst hlist hd ho hnext hsub hown hF
      go_wp2_with fail
      refine (markBlockS_k x u Fi (k0 + 2 * (sumL xss j : Nat)) _ HO.out (by omega) (by omega) (by omega)).mono ?_
      rintro e w2 ⟨rfl, o2, c2⟩
      have k1 := HNX.out w2 _ c2 o2
      have K1 : Hid ((cblockss ((mkSS k0 xss).take (j + 1) ++ xss.drop (j + 1))).own w2 F (.slice (some ⟨g, 0, none⟩) n c)) := by
        have : (((mkSS k0 xss).take j ++ xss.drop j).flatMap fun l => [cblocks l]).set j (cblocks (mk2 (k0 + 2 * (sumL xss j : Nat)) x.length)) = ((mkSS k0 xss).take (j + 1) ++ xss.drop (j + 1)).flatMap fun l => [cblocks l] := by
          rw [cbs_flat, cbs_flat, ← List.map_set, HST.out]
        rw [this] at k1
        exact k1
      have C2 := Lib.hid (hch.out.trans (c2.mono fun y hy => HSUB.out y hy))
      clear o2 c2 k1 hch
      go_wp2_with fail
      go_roundw
      case rel => exact ⟨j + 1, by omega, by go_num, by rw [HS.out]; go_num, K1.out, C2.out⟩
      case measure => simp [intOf]; omega
    · have hjn : j = n := by omega
      subst hjn
      go_wp2_with fail
      go_ret
      have hF := hown.out
      have hl := LX.out
      rw [List.take_of_length_le (by rw [mkSS_len]; omega), List.drop_of_length_le (by omega), List.append_nil] at hF
      exact ⟨rfl, hF, hch.out⟩
set_option maxHeartbeats 800000 in
theorem heldBlockSS_k (xss : List Bks) (v : Value) (k0 : Int) (w : World) (h : (cblockss (mkSS k0 xss)).rd w v) (hn : xss.length + sumL xss xss.length ≤ 1048576) (h0 : 0 ≤ k0) (h1 : k0 ≤ 274877906944) :
    Calls Try.prog 67 #[v, .int .i64 k0] w fun e w' => e = .returned (.int .i64 (k0 + 2 * (sumL xss xss.length : Nat))) ∧ w.grownBy w' none := by
  obtain ⟨A, c, rfl, hc, hm⟩ := cbs_rd h
  rw [mkSS_len] at hc h ⊢
  have HX := Lib.hid h
  obtain ⟨n, hnn⟩ : ∃ n, xss.length = n := ⟨_, rfl⟩
  rw [hnn] at hc hn HX ⊢
  have LX := Lib.hid hnn
  unfold maxLen at hm
  clear h hnn
  go_enter Try.func67, Try.ntmps67
  go_wp2_with fail
  go_loopw [1, 5] (fun s i wr => ∃ j : Nat, j ≤ n ∧ i = .int .i64 j ∧ s = .int .i64 (k0 + 2 * (sumL xss j : Nat)) ∧ Hid (w.grownBy wr none)) (fun _ i _ => n - (intOf i).toNat)
  case atStart => exact ⟨0, Nat.zero_le _, rfl, by rw [sumL_zero]; go_num, gbR _ _⟩
  case round =>
    obtain ⟨j, hj, rfl, rfl, hG⟩ := hrel
    by_cases hlt : j < n
    · obtain ⟨b, o, y, u, rfl, hb, hy, q1, q2⟩ := cbs_at (CS.grow _ HX.out hG.out) hlt
      have hjx : j < xss.length := by have := LX.out; omega
      have hx : xss[j]? = some xss[j] := List.getElem?_eq_getElem hjx
      have HS := Lib.hid (sumL_succ xss j _ hx)
      have HM := Lib.hid (sumL_mono xss (show j + 1 ≤ n by omega))
      rw [mkSS_get, hx] at hy
      generalize xss[j] = x at *
      simp at hy
      subst hy
      have Q2 := Lib.hid q2
      have hb1 : sumL xss j + x.length ≤ 1048576 := by
        have h1 := HS.out; have h2 := HM.out; omega
      have hb2 : ¬ (k0 + 2 * (sumL xss j : Nat) + 2 * (x.length : Int) < 0) := by omega
      have i1 : (j : Int) < (n : Int) := by omega
      clear q2 hx
      go_wp2_with fail
      refine (heldBlockS_k x.length u (k0 + 2 * (sumL xss j : Nat)) _ Q2.out (by omega) (by omega) (by omega)).mono ?_
      rintro e w2 ⟨rfl, g2⟩
      have G2 := Lib.hid (gbT hG.out g2)
      clear g2
      go_wp2_with fail
      go_roundw
      case rel => exact ⟨j + 1, by omega, by go_num, by rw [HS.out]; go_num, G2.out⟩
      case measure => simp [intOf]; omega
    · have hjn : j = n := by omega
      subst hjn
      go_wp2_with fail
      go_ret
      exact ⟨rfl, hG.out⟩
theorem len_sumL (xss : List Bks) (x : Bks) (h : x ∈ xss) : x.length ≤ sumL xss xss.length := by
  obtain ⟨j, hj, rfl⟩ := List.getElem_of_mem h
  have h1 := sumL_succ xss j _ (List.getElem?_eq_getElem hj)
  have h2 := sumL_mono xss (show j + 1 ≤ xss.length by omega)
  omega
def szB (xss : List Bks) : Nat := xss.length + sumL xss xss.length
theorem toBlockSS_z (xss : List Bks) (v : Value) (w : World) (h : (cblockss xss).rd w v) (hn : szB xss ≤ 1048576) :
    Calls Try.prog 59 #[v] w fun e w' => ∃ u F, e = .returned u ∧ (cblockss xss).own w' F u ∧ (∀ g ∈ F, w.heap.size ≤ g) ∧ w.grownBy w' none :=
  toBlockSS_k xss v w h (by unfold szB at hn; omega) fun x hx => by have := len_sumL xss x hx; unfold szB at hn; omega
theorem eqBlockSS_z (xss : List Bks) (v u : Value) (w : World) (h : (cblockss xss).rd w v) (k : (cblockss xss).rd w u) (hn : szB xss ≤ 1048576) :
    Calls Try.prog 61 #[v, u] w fun e w' => e = .returned (.bool true) ∧ w.grownBy w' none :=
  eqBlockSS_k xss v u w h k (by unfold szB at hn; omega) fun x hx => by have := len_sumL xss x hx; unfold szB at hn; omega
theorem szBlockSS_z (xss : List Bks) (v : Value) (l : Nat) (w : World) (h : (cblockss xss).rd w v) (hl : l ≤ 1048576) :
    Calls Try.prog 56 #[v, .int .i64 l] w fun e w' => e = .returned (.int .i64 (szO l (szB xss))) ∧ w.grownBy w' none := szBlockSS_k xss v l w h hl
def cntB (xss : List Bks) : Int := 2 * (sumL xss xss.length : Nat)
theorem cntB_bd {xss : List Bks} (h : szB xss ≤ 1048576) : 0 ≤ cntB xss ∧ cntB xss ≤ 2097152 := by unfold cntB; unfold szB at h; omega
theorem markBlockSS_z (xss : List Bks) (v : Value) (F : List Nat) (k0 : Int) (w : World) (h : (cblockss xss).own w F v) (hn : szB xss ≤ 1048576) (h0 : 0 ≤ k0) (h1 : k0 ≤ 274877906944) :
    Calls Try.prog 63 #[v, .int .i64 k0] w fun e w' => e = .returned (.int .i64 (k0 + cntB xss)) ∧ (cblockss (mkSS k0 xss)).own w' F v ∧ Chg (fun g => g ∈ F) w w' := markBlockSS_k xss v F k0 w h hn h0 h1
theorem heldBlockSS_z (xss : List Bks) (v : Value) (k0 : Int) (w : World) (h : (cblockss (mkSS k0 xss)).rd w v) (hn : szB xss ≤ 1048576) (h0 : 0 ≤ k0) (h1 : k0 ≤ 274877906944) :
    Calls Try.prog 67 #[v, .int .i64 k0] w fun e w' => e = .returned (.int .i64 (k0 + cntB xss)) ∧ w.grownBy w' none := heldBlockSS_k xss v k0 w h hn h0 h1
end Go.Proofs.Ythncoohkdmjcaaa
