/-
  The laws' helpers on slices of Auths, by what they read as.
-/
import Derived.Test.YthaadgdeadbhkaaMgFnExactEngineOutputs31
import Derived.Test.YthaadgdeadbhkaaMgFnExactEngineOutputs32
namespace Go.Proofs.Ythaadgdeadbhkaa
open Go.RowKit
set_option linter.unusedVariables false
set_option linter.unusedSimpArgs false
def auS (xs : List AuM) (k : Nat) : Nat := ((xs.take k).map AuM.sz).sum
theorem auS_zero (xs : List AuM) : auS xs 0 = 0 := by simp [auS]
theorem auS_succ (xs : List AuM) (k : Nat) (x : AuM) (h : xs[k]? = some x) : auS xs (k + 1) = auS xs k + x.sz := by
  obtain ⟨hk, rfl⟩ := List.getElem?_eq_some_iff.1 h
  unfold auS
  rw [List.take_succ_eq_append_getElem hk, List.map_append, List.sum_append]
  simp
theorem auS_mono (xs : List AuM) {j k : Nat} (h : j ≤ k) : auS xs j ≤ auS xs k := by
  induction k with
  | zero => have : j = 0 := by omega
            subst this; exact Nat.le_refl _
  | succ k ih =>
    by_cases e : j = k + 1
    · subst e; exact Nat.le_refl _
    · have h1 := ih (by omega)
      cases hk : xs[k]? with
      | some x => rw [auS_succ xs k x hk]; omega
      | none =>
        have hl : xs.length ≤ k := by simpa using hk
        have : auS xs (k + 1) = auS xs k := by unfold auS; rw [List.take_of_length_le (by omega), List.take_of_length_le (by omega)]
        omega
def szA (xs : List AuM) : Nat := xs.length + auS xs xs.length
theorem len_auS (xs : List AuM) (x : AuM) (h : x ∈ xs) : x.sz ≤ auS xs xs.length := by
  obtain ⟨j, hj, rfl⟩ := List.getElem_of_mem h
  have h1 := auS_succ xs j _ (List.getElem?_eq_getElem hj)
  have h2 := auS_mono xs (show j + 1 ≤ xs.length by omega)
  omega
theorem cas_rd {w : World} {xs : List AuM} {v : Value} (h : (cauths xs).rd w v) : ∃ A c, v = .slice A xs.length c ∧ xs.length ≤ c ∧ c ≤ maxLen := by
  obtain ⟨A, c, vs, h1, h2, h3, _⟩ := lst_rd (s := 2) (fun _ => rfl) (by omega) h
  exact ⟨A, c, h1, h2, h3⟩
theorem auth_set2 (xs : List AuM) (i : Nat) (x : AuM) (hi : i < xs.length) : ((xs.flatMap cauth).set (i * 2) (cints x.sh)).set (i * 2 + 1) (cints x.mc) = (xs.set i x).flatMap cauth := by
  have hlen : (xs.flatMap cauth).length = xs.length * 2 := flat_len (sz := 2) (fun _ => rfl) xs
  apply List.ext_getElem?
  intro j
  rw [List.getElem?_set, List.getElem?_set, List.length_set, hlen, flat_get' (sz := 2) (fun _ => rfl) (by omega) xs, flat_get' (sz := 2) (fun _ => rfl) (by omega) (xs.set i x)]
  rw [List.getElem?_set]
  have hm : j % 2 < 2 := Nat.mod_lt _ (by omega)
  by_cases e : i = j / 2
  · subst e
    rw [if_pos rfl, if_pos hi]
    rcases Nat.lt_or_ge (j % 2) 1 with h6 | h6
    · have h7 : j % 2 = 0 := by omega
      rw [if_neg (by omega), if_pos (by omega), if_pos (by omega), h7]
      rfl
    · have h7 : j % 2 = 1 := by omega
      rw [if_pos (by omega), if_pos (by omega), h7]
      rfl
  · rw [if_neg e, if_neg (by omega), if_neg (by omega)]
set_option maxHeartbeats 400000 in
theorem szAuthS_z (xss : List AuM) (v : Value) (l : Nat) (w : World) (h : (cauths xss).rd w v) (hl : l ≤ 1048576) :
    Calls Try.prog 90 #[v, .int .i64 l] w fun e w' => e = .returned (.int .i64 (szO l (szA xss))) ∧ w.grownBy w' none := by
  obtain ⟨A, c, rfl, hc, hm⟩ := cas_rd h
  have HX := Lib.hid h
  unfold maxLen at hm
  unfold szA
  obtain ⟨n, hn⟩ : ∃ n, xss.length = n := ⟨_, rfl⟩
  rw [hn] at hc HX ⊢
  have LX := Lib.hid hn
  clear h hn
  by_cases hbig : l < n
  · have h' : (l : Int) - (n : Int) < 0 := by omega
    have HB := Lib.hid hbig
    clear hbig
    go_enter Try.func90, Try.ntmps90
    go_wp2_with fail
    go_ret
    have := HB.out
    exact ⟨retI (szO_no (by omega)).symm, gbR _ _⟩
  · have h' : ¬ ((l : Int) - (n : Int) < 0) := by omega
    go_enter Try.func90, Try.ntmps90
    go_wp2_with fail
    go_loopw [1, 5] (fun s i wr => ∃ k q : Nat, k ≤ n ∧ i = .int .i64 k ∧ s = .int .i64 q ∧ q ≤ l ∧ Hid (q + n + auS xss k = l) ∧ Hid (w.grownBy wr none)) (fun _ i _ => n - (intOf i).toNat)
    case atStart => exact ⟨0, l - n, Nat.zero_le _, rfl, by go_num, by omega, by unfold Hid; rw [auS_zero]; omega, gbR _ _⟩
    case round =>
      obtain ⟨k, q, hk, rfl, rfl, hql, hq, hG⟩ := hrel
      by_cases hlt : k < n
      · obtain ⟨b, o, x, B, d, C, f, rfl, hb, hx, q0, q1, q2⟩ := cauths_at (CS.grow _ HX.out hG.out) hlt
        have HS := Lib.hid (auS_succ xss k x hx)
        have HM := Lib.hid (auS_mono xss (show k + 1 ≤ n by omega))
        have Q2 := Lib.hid q2
        have i1 : (k : Int) < (n : Int) := by omega
        clear hx q2
        obtain ⟨rl, hrl⟩ : ∃ r, x.sz = r := ⟨_, rfl⟩
        have HRL := Lib.hid hrl
        rw [hrl] at HS
        clear hrl
        by_cases hfit : rl ≤ q
        · have HF := Lib.hid (szO_yes hfit)
          go_wp2_with fail
          refine (szAuth_k x _ q _ Q2.out (by omega)).mono ?_
          rintro e w1 ⟨rfl, g⟩
          rw [HRL.out, HF.out]
          have G1 := Lib.hid (gbT hG.out g)
          have h'' : ¬ (((q - rl : Nat) : Int) < 0) := by omega
          clear g
          go_wp2_with fail
          go_roundw
          case rel => exact ⟨k + 1, q - rl, by omega, by go_num, rfl, by omega, by have h1 := HS.out; have h2 := hq.out; unfold Hid; omega, G1.out⟩
          case measure => simp [intOf]; omega
        · have HF := Lib.hid (szO_no (Nat.lt_of_not_le hfit))
          go_wp2_with fail
          refine (szAuth_k x _ q _ Q2.out (by omega)).mono ?_
          rintro e w1 ⟨rfl, g⟩
          rw [HRL.out, HF.out]
          have G1 := Lib.hid (gbT hG.out g)
          clear g
          go_wp2_with fail
          go_ret
          have h1 := HS.out; have h2 := hq.out; have h3 := HM.out
          exact ⟨retI (szO_no (by omega)).symm, G1.out⟩
      · have hkn : k = n := by omega
        subst hkn
        go_wp2_with fail
        go_ret
        have h2 := hq.out
        exact ⟨retI (by rw [szO_yes (by omega)]; omega), hG.out⟩
set_option maxRecDepth 100000 in
set_option maxHeartbeats 800000 in
theorem eqAuthS_z (xss : List AuM) (v u : Value) (w : World) (h : (cauths xss).rd w v) (k : (cauths xss).rd w u) (hs : szA xss ≤ 1048576) :
    Calls Try.prog 96 #[v, u] w fun e w' => e = .returned (.bool true) ∧ w.grownBy w' none := by
  obtain ⟨A, c, rfl, hc, hm⟩ := cas_rd h
  obtain ⟨B, d, rfl, hd, hm'⟩ := cas_rd k
  have HX := Lib.hid h
  have HY := Lib.hid k
  have HSM : Hid (∀ x ∈ xss, x.sz ≤ 1048576) := Lib.hid (fun x hx => by have := len_auS xss x hx; unfold szA at hs; omega)
  have hn : xss.length ≤ 1048576 := by unfold szA at hs; omega
  obtain ⟨n, hnn⟩ : ∃ n, xss.length = n := ⟨_, rfl⟩
  rw [hnn] at hc hd hn HX HY ⊢
  clear h k hs hnn
  have hd : ((n : Int) != (n : Int)) = false := by simp
  go_enter Try.func96, Try.ntmps96
  go_wp2_with fail
  go_loopw [5] (fun i wr => ∃ k : Nat, k ≤ n ∧ i = .int .i64 k ∧ Hid (w.grownBy wr none)) (fun i _ => n - (intOf i).toNat)
  case atStart => exact ⟨0, Nat.zero_le _, rfl, gbR _ _⟩
  case round =>
    obtain ⟨k, hk, rfl, hg⟩ := hrel
    by_cases hlt : k < n
    · obtain ⟨b, o, x, X0, x0, X1, x1, rfl, hb, hx, q0, q1, q2⟩ := cauths_at (CS.grow _ HX.out hg.out) hlt
      obtain ⟨b', o', x', Y0, y0, Y1, y1, rfl, hb', hx', r0, r1, r2⟩ := cauths_at (CS.grow _ HY.out hg.out) hlt
      obtain rfl : x = x' := by rw [hx] at hx'; injection hx'
      have HL := Lib.hid (HSM.out x (List.mem_of_getElem? hx))
      have i1 : (k : Int) < (n : Int) := by omega
      have Q2 := Lib.hid q2
      have R2 := Lib.hid r2
      have Q0 := Lib.hid q0
      have Q1 := Lib.hid q1
      have R0 := Lib.hid r0
      have R1 := Lib.hid r1
      clear q2 r2 hx hx' q0 q1 r0 r1
      go_wp2_with fail
      refine region_grow [isV (.slice (some ⟨b, o, none⟩) n c), isV (.int .i64 k), isV (.pointer (some ⟨b, o + k * 2, none⟩)), isV (.agg #[.slice X0 x.sh.length x0, .slice X1 x.mc.length x1]), isV (.slice (some ⟨b', o', none⟩) n d), isV (.int .i64 k), isV (.pointer (some ⟨b', o' + k * 2, none⟩)), isV (.agg #[.slice Y0 x.sh.length y0, .slice Y1 x.mc.length y1]), isV (.bool true), isV (.bool false)] (by kernel_rfl) (by kernel_rfl) (by kernel_rfl) (by simp [stables, isV_st]) ?_ ?_
      · simp only [hops, and_true]
        refine ⟨?_, ?_, ?_, ?_, ?_, ?_, ?_, ?_, ?_, ?_⟩
        all_goals
          intro f w1 hG hd
          have k0 := gbk (gbT (gbD (gbR _ _)) hG) (Q0.out)
          have k1 := gbk (gbT (gbD (gbR _ _)) hG) (Q1.out)
          have k2 := gbk (gbT (gbD (gbR _ _)) hG) (R0.out)
          have k3 := gbk (gbT (gbD (gbR _ _)) hG) (R1.out)
          simp [deps, tAt, isV] at hd
          first | simp [puts, dsts, Act.put, hd] | simp [puts, dsts, Act.put]
          clear hd
          go_wp2_with (first | (go_at_call 149; refine (eqAuth_k x _ _ _ (AggR.grow Q2.out (gbT (gbD (gbR _ none)) hG)) (AggR.grow R2.out (gbT (gbD (gbR _ none)) hG)) HL.out).mono ?_; rintro e w6 ⟨rfl, hw⟩))
        all_goals exact ⟨_, rfl, by first | with_reducible exact gbR _ _ | exact hw, by first | (simp [tAt, isV]; done) | (simp [tAt, isV]; assumption)⟩
      intro f w5 hG hd
      simp [knows, tAt, isV] at hd
      obtain ⟨h0_, h1_, h2_, h3_, h4_, h5_, h6_, h7_, h8_, h9_⟩ := hd
      simp only [puts, dsts, Act.put, h0_, h1_, h2_, h3_, h4_, h5_, h6_, h7_, h8_, h9_, List.filterMap_cons, List.filterMap_nil, List.setIfInBounds_toArray, List.set_cons_zero, List.set_cons_succ]
      clear h0_ h1_ h2_ h3_ h4_ h5_ h6_ h7_ h8_ h9_
      have g5 := gbT (gbD (gbR _ none)) hG
      clear hG
      have G2 := Lib.hid (gbT hg.out g5)
      clear g5
      go_wp2_with fail
      go_roundw
      case rel => exact ⟨k + 1, by omega, by go_num, G2.out⟩
      case measure => simp [intOf]; omega
    · have hkn : k = n := by omega
      subst hkn
      go_wp2_with fail
      go_ret
      exact ⟨rfl, hg.out⟩
set_option maxHeartbeats 800000 in
theorem toAuthS_z (xss : List AuM) (v : Value) (w : World) (h : (cauths xss).rd w v) (hs : szA xss ≤ 1048576) :
    Calls Try.prog 93 #[v] w fun e w' => ∃ u F, e = .returned u ∧ (cauths xss).own w' F u ∧ (∀ g ∈ F, w.heap.size ≤ g) ∧ w.grownBy w' none := by
  obtain ⟨A, c, rfl, hc, hm⟩ := cas_rd h
  have HX := Lib.hid h
  have HSM : Hid (∀ x ∈ xss, x.sz ≤ 1048576) := Lib.hid (fun x hx => by have := len_auS xss x hx; unfold szA at hs; omega)
  have hn : xss.length ≤ 1048576 := by unfold szA at hs; omega
  obtain ⟨n, hnn⟩ : ∃ n, xss.length = n := ⟨_, rfl⟩
  rw [hnn] at hc hn HX ⊢
  have LX := Lib.hid hnn
  clear h hs hnn
  go_enter Try.func93, Try.ntmps93
  go_wp2_with (at_make; refine wp_makeN _ elAuth rfl _ _ rfl n rfl rfl (by omega) (by unfold maxLen; omega) ?_; intro w1 hown1 hg1)
  rw [show (Value.agg #[.slice none 0 0, .slice none 0 0]).cells = #[.slice none 0 0, .slice none 0 0] from rfl, toList_made_two] at hown1
  have O1 := Lib.hid (cauths_made hown1)
  have G1 := Lib.hid hg1
  clear hown1 hg1
  go_loopw [4] (fun i wr => ∃ k : Nat, k ≤ n ∧ i = .int .i64 k ∧ Hid (∃ F, (cauths (xss.take k ++ List.replicate (n - k) noA)).own wr F (.slice (some ⟨w.heap.size, 0, none⟩) n n) ∧ ∀ g ∈ F, w.heap.size ≤ g) ∧ Hid (w.grownBy wr none)) (fun i _ => n - (intOf i).toNat)
  case atStart => exact ⟨0, Nat.zero_le _, rfl, ⟨_, by simpa using O1.out, by simp⟩, G1.out⟩
  case round =>
    clear O1 G1
    obtain ⟨k, hk, rfl, hown, hg⟩ := hrel
    by_cases hlt : k < n
    · obtain ⟨b, o, x, X0, x0, X1, x1, rfl, hb, hx, q0, q1, q2⟩ := cauths_at (CS.grow _ HX.out hg.out) hlt
      have HL := Lib.hid (HSM.out x (List.mem_of_getElem? hx))
      have Q2 := Lib.hid q2
      have HXk := Lib.hid hx
      have i1 : (k : Int) < (n : Int) := by omega
      clear q2 hx
      go_wp2_with fail
      refine (toAuth_k x _ _ Q2.out HL.out).mono ?_
      rintro e w2 ⟨u', F', rfl, o2, l2, g2⟩
      obtain ⟨B, m, d, B', m', d', rfl⟩ := cauth_oform o2
      obtain ⟨F, hF, hFl⟩ := hown.out
      have hF2 := own_growK _ hF g2
      have hlen : (xss.take k ++ List.replicate (n - k) noA).length = n := by have := LX.out; simp; omega
      obtain ⟨_, _, _, _, e1, e2, e3, e4, _⟩ := cauths_el hF2 (i := k) (by rw [hlen]; exact hlt)
      obtain ⟨F2, k1, k2⟩ := cauths_set hF2 (i := k) (by rw [hlen]; exact hlt) o2 (fun y hy hy' => by have h1 := l2 y hy; have h2 := CS.lt _ hF y hy'; omega)
      have hset : (xss.take k ++ List.replicate (n - k) noA).set k x = xss.take (k + 1) ++ List.replicate (n - (k + 1)) noA := by
        have hl := LX.out
        have hkl : k < xss.length := by omega
        have hxk : xss[k] = x := by have := HXk.out; rw [List.getElem?_eq_getElem hkl] at this; injection this
        rw [← hl, ← hxk, fillD_step noA xss k hkl]
      rw [hset] at k1
      have K1 : Hid (∃ F, (cauths (xss.take (k + 1) ++ List.replicate (n - (k + 1)) noA)).own ((w2.setCell ⟨w.heap.size, k * 2, none⟩ (.slice B m d)).setCell ⟨w.heap.size, k * 2 + 1, none⟩ (.slice B' m' d')) F (.slice (some ⟨w.heap.size, 0, none⟩) n n) ∧ ∀ g ∈ F, w.heap.size ≤ g) := ⟨F2, k1, fun g hg' => by
        rcases k2 g hg' with h3 | h3
        · exact hFl g h3
        · have := l2 g h3; have := hg.out.size; omega⟩
      have G2 := Lib.hid (gbS (gbS (gbT hg.out g2) (p := ⟨w.heap.size, k * 2, none⟩) (Nat.le_refl _) (.slice B m d)) (p := ⟨w.heap.size, k * 2 + 1, none⟩) (Nat.le_refl _) (.slice B' m' d'))
      clear hF hF2 hFl hset k1 k2 o2 l2 g2 hown hlen
      go_wp2_with fail
      go_roundw
      case rel => exact ⟨k + 1, by omega, by go_num, K1.out, G2.out⟩
      case measure => simp [intOf]; omega
    · have hkn : k = n := by omega
      subst hkn
      go_wp2_with fail
      go_ret
      obtain ⟨F, hF, hFl⟩ := hown.out
      have hl := LX.out
      rw [Nat.sub_self, List.replicate_zero, List.append_nil, List.take_of_length_le (by omega)] at hF
      exact ⟨_, F, rfl, hF, hFl, hg.out⟩
end Go.Proofs.Ythaadgdeadbhkaa
