/-
  append on a row of one's own, once more: the old value reads behind it as it did.
-/
import Derived.Test.YthncoohkdmjcaaaMgFnMemory6
import Derived.Test.YthncoohkdmjcaaaMgFnMemory3
namespace Go.Proofs.Ythncoohkdmjcaaa
open Go.RowKit
set_option linter.unusedVariables false
set_option linter.unusedSimpArgs false
theorem own_prefix {w : World} {base g n m cap size : Nat} {e : TypeId} {xs ys : List Value} (h : w.ownsRow base e size (.slice (some ⟨g, 0, none⟩) (n + m) cap) (n + m) (xs ++ ys)) (hl : xs.length = n * size) :
    w.ownsRow base e size (.slice (some ⟨g, 0, none⟩) n cap) n xs := by
  refine ⟨hl, .inr ?_⟩
  rcases h.2 with ⟨h1, _⟩ | ⟨g', cap', cur, hv, hb, hg, hnc, hcm, hcs, ht⟩
  · injection h1 with h1; cases h1
  · injection hv with e1 e2 e3
    injection e1 with e1
    injection e1 with e1
    subst e1; subst e3
    refine ⟨g, cap, cur, rfl, hb, hg, by omega, hcm, hcs, ?_⟩
    have := congrArg (List.take (n * size)) ht
    rw [List.take_take, Nat.min_eq_left (Nat.mul_le_mul_right _ (by omega))] at this
    rw [this, ← hl, List.take_left]
section
variable {P : Program}
theorem run_append_keep (w : World) (base : Nat) (t ty e : TypeId) (i : TypeInfo) (z : Value) (size bytes : Nat) (ht : P.underlying t = some (.slice e)) (hi : P.info? e = some i) (hz : i.zero = some z)
    (hsize : i.size = size) (hby : i.bytes = bytes) (hzs : z.cells.size = size) (hsz : 0 < size)
    (v : Value) (n : Nat) (xs : List Value) (hown : w.ownsRow base e size v n xs)
    (a : Addr) (m c : Nat) (news : List Value) (hl : news.length = m * size) (hnews : ∀ j u, news[j]? = some u → w.cell? (a.add j) = some u) (h1 : ∀ u ∈ news, u.oneCell' = true)
    (h63 : n + m ≤ maxLen) (hbytes : (n + m) * bytes ≤ 140737488355328) (hbase : base ≤ w.heap.size) :
    ∃ v' w', (Builtin.append_ #[t, t] ty #[v, .slice (some a) m c]).run P w = .ok v' w' ∧ w'.ownsRow base e size v' (n + m) (xs ++ news) ∧ w.grownBy w' v.ownBlock ∧ w'.ownsRow base e size v n xs := by
  rcases hown.2 with ⟨rfl, rfl⟩ | ⟨g, cap, cur, rfl, hbg, hg, hnc, hcm, hcs, htake⟩
  · obtain ⟨v', w', hr, ho, hg, _⟩ := run_append_own w base t ty e i z size bytes ht hi hz hsize hby hzs hsz _ 0 xs hown a m c news hl hnews h1 h63 hbytes hbase
    exact ⟨v', w', hr, ho, hg, ⟨hown.1, .inl ⟨rfl, rfl⟩⟩⟩
  · obtain ⟨v', w', hr, ho, hgr, _⟩ := run_append_own w base t ty e i z size bytes ht hi hz hsize hby hzs hsz _ n xs hown a m c news hl hnews h1 h63 hbytes hbase
    refine ⟨v', w', hr, ho, hgr, ?_⟩
    have hxl := hown.1
    subst hsize
    subst hby
    by_cases hroom : n + m ≤ cap
    · have hfit : n * i.size + news.length ≤ cur.size := by rw [hl, hcs, ← Nat.add_mul]; exact Nat.mul_le_mul_right _ hroom
      have hr2 := run_append_room (P := P) w t ty e i ht hi g n cap cur hg a m c news hl hnews h1 hroom hfit
      rw [hr] at hr2
      injection hr2 with e1 _
      subst e1
      exact own_prefix ho hxl
    · have hsmall : n + m ≤ 9223372036854775807 := by simp only [maxLen] at h63; omega
      have holds : ∀ j u, xs[j]? = some u → w.cell? ((⟨g, 0, none⟩ : Addr).add j) = some u := hown.cells (g := g) rfl
      have hr2 := run_append_grow (P := P) w t ty e i z ht hi hz ⟨g, 0, none⟩ n cap xs hown.1 holds a m c news hl hnews (by omega) (by omega) (growslice_fits (by omega) hbytes)
      rw [hr] at hr2
      injection hr2 with e1 e2
      subst e2
      exact own_grow hown (gbA (gbD (gbR _ _)) _)
variable {ops : Array Oper} {rest : List Oper} {o : Oper} {a : Act} {Q : Exit → Act → World → Prop}
/-- 'append(out, xs...)', xs not nil. -/
theorem wp_appendK (wr : World) {t e : TypeId} {z : Value} {size bytes : Nat} (E : El P t e z size bytes) (hgd : o.guard = none) (s x : Operand)
    (ho : o.op = .call { callee := .builtin .append, args := #[s, x], argTypes := #[t, t] })
    (base : Nat) (v : Value) (n : Nat) (xs : List Value) (hown : wr.ownsRow base e size v n xs) (hs : a.eval s = v) (ad : Addr) (m c : Nat) (ys : List Value) (hx : a.eval x = .slice (some ad) m c) (hl : ys.length = m * size) (hc : ∀ j u, ys[j]? = some u → wr.cell? (ad.add j) = some u) (h1 : ∀ u ∈ ys, u.oneCell' = true)
    (hn : n + m ≤ maxLen) (hb : (n + m) * bytes ≤ 140737488355328) (hbase : base ≤ wr.heap.size)
    (h : ∀ v' w', w'.ownsRow base e size v' (n + m) (xs ++ ys) → wr.grownBy w' v.ownBlock → w'.ownsRow base e size v n xs → wpList P ops Q rest (a.put o.dst v') w') :
    wpList P ops Q (o :: rest) a wr := by
  obtain ⟨i, hi, hz0, hz1, hz2⟩ := info_parts E.hi
  obtain ⟨v', w', hr, h2, h3, h4⟩ := run_append_keep (P := P) wr base t o.type e i z size bytes E.ht hi hz0 hz1 hz2 E.hz E.hs v n xs hown ad m c ys hl hc h1 hn hb hbase
  refine wpList_plain hgd fun _ hK => ?_
  unfold Oper.wp execOp
  simp only [ho, resolve, invoke, builtin, Sem.run_bind, Sem.run_pure, Result.andThen_ok, List.map_toArray, List.map_cons, List.map_nil, hs, hx, hr]
  exact hK _ _ (h v' w' h2 h3 h4)
/-- .. by a row that is read (not empty). -/
theorem wp_appendKR (wr : World) {t e : TypeId} {z : Value} {size bytes : Nat} (E : El P t e z size bytes) (hgd : o.guard = none) (s x : Operand)
    (ho : o.op = .call { callee := .builtin .append, args := #[s, x], argTypes := #[t, t] })
    (base : Nat) (v : Value) (n : Nat) (xs : List Value) (hown : wr.ownsRow base e size v n xs) (hs : a.eval s = v) (A : Option Addr) (m c : Nat) (ys : List Value) (hx : a.eval x = .slice A m c) (hr : Rd wr size A m ys) (hm0 : 0 < m) (h1 : ∀ u ∈ ys, u.oneCell' = true)
    (hn : n + m ≤ maxLen) (hb : (n + m) * bytes ≤ 140737488355328) (hbase : base ≤ wr.heap.size)
    (h : ∀ v' w', w'.ownsRow base e size v' (n + m) (xs ++ ys) → wr.grownBy w' v.ownBlock → w'.ownsRow base e size v n xs → wpList P ops Q rest (a.put o.dst v') w') :
    wpList P ops Q (o :: rest) a wr := by
  obtain ⟨b, off, hA, hb', hc⟩ := hr.2 hm0
  refine wp_appendK wr E hgd s x ho base v n xs hown hs ⟨b, off, none⟩ m c ys (by rw [hx, hA]) hr.1 (fun j u hu => ?_) h1 hn hb hbase h
  have hadd : (⟨b, off, none⟩ : Addr).add j = ⟨b, off + j, none⟩ := by unfold Addr.add; split <;> simp_all
  have hj : j < m * size := by rw [← hr.1]; exact (List.getElem?_eq_some_iff.1 hu).1
  rw [hadd, hc j hj, hu]
end
theorem own_cap_ne {w : World} {base base' g g' n n' c c' size : Nat} {e : TypeId} {xs ys : List Value} (h : w.ownsRow base e size (.slice (some ⟨g, 0, none⟩) n c) n xs) (k : w.ownsRow base' e size (.slice (some ⟨g', 0, none⟩) n' c') n' ys) (hs : 0 < size) (hne : c ≠ c') : g ≠ g' := by
  intro e; subst e
  rcases h.2 with ⟨h1, _⟩ | ⟨g1, cap, cur, hv, _, hg, _, _, hcs, _⟩
  · injection h1 with h1; cases h1
  rcases k.2 with ⟨h1, _⟩ | ⟨g2, cap2, cur2, hv2, _, hg2, _, _, hcs2, _⟩
  · injection h1 with h1; cases h1
  injection hv with e1 _ e3; injection e1 with e1; injection e1 with e1; subst e1; subst e3
  injection hv2 with e1 _ e3; injection e1 with e1; injection e1 with e1; subst e1; subst e3
  rw [hg] at hg2
  injection hg2 with hg2
  injection hg2 with hg2
  subst hg2
  exact hne (Nat.eq_of_mul_eq_mul_right hs (hcs.symm.trans hcs2))
theorem own_form2 {w : World} {base n size : Nat} {e : TypeId} {v : Value} {xs : List Value} (h : w.ownsRow base e size v n xs) (hn : 0 < n) : ∃ g c, v = .slice (some ⟨g, 0, none⟩) n c ∧ n ≤ c ∧ base ≤ g ∧ c ≤ maxLen := by
  rcases h.2 with ⟨_, h0⟩ | ⟨g, cap, cur, hv, hb, hg, hnc, hcm, hcs, ht⟩
  · omega
  · exact ⟨g, cap, hv, hnc, hb, hcm⟩
end Go.Proofs.Ythncoohkdmjcaaa
/-
  FieldOk and FieldBits: reference and program.
-/
namespace Go.Proofs.Ythncoohkdmjcaaa
open Go.RowKit
set_option linter.unusedVariables false
set_option linter.unusedSimpArgs false

set_option maxHeartbeats 400000 in
theorem implFieldOk_c (p : Int) (w : World) (hp : p ≤ 9223372036854775807) :
    Calls Try.prog 105 #[.int .i64 p] w fun e w' => e = .returned (.bool (fieldB p)) ∧ w = w' := by
  go_enter Try.func105, Try.ntmps105
  go_wp2_with fail
  go_loop [3] (fun i => ∃ k : Nat, 2 ≤ k ∧ k ≤ 102 ∧ i = .int .i64 k ∧ Hid (∀ d : Nat, 2 ≤ d → d < k → (d : Int) < p → p % (d : Int) ≠ 0)) (fun i => 102 - (intOf i).toNat)
  case atStart => exact ⟨2, by omega, by omega, rfl, fun d h1 h2 => by omega⟩
  case round =>
    obtain ⟨k, hk2, hk, rfl, hnd⟩ := hrel
    by_cases h1 : (k : Int) < p
    · by_cases h2 : k ≤ 101
      · have d2 : decide ((k : Int) ≤ 101) = true := by simp; omega
        by_cases h3 : p % (k : Int) = 0
        · have h3' : (p % (k : Int) == 0) = true := by simp [h3]
          have H3 := Lib.hid h3
          clear h3
          go_wp2_with fail
          go_ret
          exact ⟨retB (field_no hk2 h1 H3.out).symm, rfl⟩
        · have h3' : (p % (k : Int) == 0) = false := by simp [h3]
          have H3 := Lib.hid h3
          clear h3
          go_wp2_with fail
          go_round
          case rel => exact ⟨k + 1, by omega, by omega, by go_num, fun d hd2 hdk hdp => by
            by_cases e : d = k
            · subst e; exact H3.out
            · exact hnd.out d hd2 (by omega) hdp⟩
          case measure => simp [intOf]; omega
      · have d2 : decide ((k : Int) ≤ 101) = false := by simp; omega
        have hbig : 101 < p := by omega
        have d3 : decide (p ≤ 101) = false := by simp; omega
        go_wp2
        go_ret
        exact ⟨retB (field_small (.inr hbig)).symm, rfl⟩
    · by_cases h2 : 2 ≤ p ∧ p ≤ 101
      · obtain ⟨h2, h3⟩ := h2
        have d1 : decide ((k : Int) < p) = false := by simp; omega
        have d3 : decide (p ≤ 101) = true := by simp; omega
        have d4 : decide (2 ≤ p) = true := by simp; omega
        go_wp2
        go_ret
        exact ⟨retB (field_yes h2 h3 fun d hd2 hdp => hnd.out d hd2 (by omega) hdp).symm, rfl⟩
      · have hs : fieldB p = false := field_small (by omega)
        have HS := Lib.hid hs
        clear hs
        have d1 : decide ((k : Int) < p) = false := by simp; omega
        by_cases h3 : 2 ≤ p
        · have d3 : decide (p ≤ 101) = false := by simp; omega
          have d4 : decide (2 ≤ p) = true := by simp; omega
          clear h2
          go_wp2
          go_ret
          exact ⟨retB HS.out.symm, rfl⟩
        · have d4 : decide (2 ≤ p) = false := by simp; omega
          clear h2
          go_wp2
          go_ret
          exact ⟨retB HS.out.symm, rfl⟩

set_option maxHeartbeats 400000 in
theorem specFieldOk_c (p : Int) (w : World) (hp : p ≤ 9223372036854775807) :
    Calls Try.prog 85 #[.int .i64 p] w fun e w' => e = .returned (.bool (fieldB p)) ∧ w = w' := by
  by_cases h2 : p < 2
  · have hs := Lib.hid (field_small (.inl h2))
    have d4 : decide (2 ≤ p) = false := by simp; omega
    go_enter Try.func85, Try.ntmps85
    go_wp2
    go_ret
    exact ⟨retB hs.out.symm, rfl⟩
  · by_cases h3 : 101 < p
    · have hs := Lib.hid (field_small (.inr h3))
      have d4 : decide (2 ≤ p) = true := by simp; omega
      have d3 : decide (p ≤ 101) = false := by simp; omega
      clear h2
      go_enter Try.func85, Try.ntmps85
      go_wp2
      go_ret
      exact ⟨retB hs.out.symm, rfl⟩
    · have d4 : decide (2 ≤ p) = true := by simp; omega
      have d3 : decide (p ≤ 101) = true := by simp; omega
      have h2' : 2 ≤ p := by omega
      have h3' : p ≤ 101 := by omega
      clear h2 h3
      go_enter Try.func85, Try.ntmps85
      go_wp2
      go_loop [3] (fun i => ∃ k : Nat, 2 ≤ k ∧ k ≤ 11 ∧ i = .int .i64 k ∧ Hid (∀ d : Nat, 2 ≤ d → d < k → p % (d : Int) ≠ 0)) (fun i => 11 - (intOf i).toNat)
      case atStart => exact ⟨2, by omega, by omega, rfl, fun d h1 h2 => by omega⟩
      case round =>
        obtain ⟨k, hk2, hk, rfl, hnd⟩ := hrel
        obtain ⟨X, hX⟩ : ∃ X : Nat, X = k * k := ⟨_, rfl⟩
        have hXk : k + k ≤ X := by rw [hX]; have := Nat.mul_le_mul_right k hk2; omega
        have hX1 : X ≤ 121 := by rw [hX]; exact Nat.mul_le_mul hk hk
        have e1 : (k : Int) * (k : Int) = (X : Int) := by rw [hX]; simp
        have e2 : wrap64 ((k : Int) * (k : Int)) = (X : Int) := by rw [e1]; exact wrap_small (by omega) (by omega)
        have HX := Lib.hid hX
        have HE := Lib.hid e1
        clear hX
        by_cases h1 : (X : Int) ≤ p
        · by_cases h4 : p % (k : Int) = 0
          · have h4' : (p % (k : Int) == 0) = true := by simp [h4]
            have H4 := Lib.hid h4
            clear h4
            go_wp2
            go_ret
            exact ⟨retB (field_no hk2 (by omega) H4.out).symm, rfl⟩
          · have h4' : (p % (k : Int) == 0) = false := by simp [h4]
            have H4 := Lib.hid h4
            have hk10 : k ≤ 10 := by
              rcases Nat.lt_or_ge 10 k with h | h
              · have : k = 11 := by omega
                subst this
                have := HX.out
                omega
              · exact h
            clear h4
            go_wp2
            go_round
            case rel => exact ⟨k + 1, by omega, by omega, by go_num, fun d hd2 hdk => by
              by_cases e : d = k
              · subst e; exact H4.out
              · exact hnd.out d hd2 (by omega)⟩
            case measure => simp [intOf]; omega
        · have h1' : p < (X : Int) := by omega
          go_wp2
          go_ret
          exact ⟨retB (field_sq h2' h3' (by omega) (by rw [HE.out]; exact h1') hnd.out).symm, rfl⟩
def fb (p : Int) : Nat := if p ≤ 2 then 1 else if p ≤ 4 then 2 else if p ≤ 8 then 3 else if p ≤ 16 then 4 else if p ≤ 32 then 5 else if p ≤ 64 then 6 else 7
theorem fb_le (p : Int) : fb p ≤ 7 := by unfold fb; repeat' split
                                         all_goals omega
theorem fb_pow {p : Int} (h2 : 2 ≤ p) (h3 : p ≤ 101) {k : Nat} (hk : k ≤ 7) : ((2 ^ k : Nat) : Int) < p ↔ k < fb p := by
  obtain rfl | rfl | rfl | rfl | rfl | rfl | rfl | rfl : k = 0 ∨ k = 1 ∨ k = 2 ∨ k = 3 ∨ k = 4 ∨ k = 5 ∨ k = 6 ∨ k = 7 := by omega
  all_goals (unfold fb; simp; repeat' split)
  all_goals omega
set_option maxHeartbeats 400000 in
theorem specFieldBits_yes (p : Int) (w : World) (hf : fieldB p = true) :
    Calls Try.prog 50 #[.int .i64 p] w fun e w' => e = .returned (.int .i64 (fb p)) ∧ w = w' := by
  obtain ⟨h2, h3⟩ := field_range hf
  have HF := Lib.hid hf
  clear hf
  go_enter Try.func50, Try.ntmps50
  go_wp2_with fail
  refine (specFieldOk_c p _ (by omega)).mono ?_
  rintro e w1 ⟨rfl, rfl⟩
  rw [HF.out]
  go_wp2_with fail
  go_loop [3] (fun i => ∃ k : Nat, k ≤ fb p ∧ k ≤ 7 ∧ i = .int .i64 k) (fun i => 8 - (intOf i).toNat)
  case atStart => exact ⟨0, Nat.zero_le _, by omega, rfl⟩
  case round =>
    obtain ⟨k, hk, hk7, rfl⟩ := hrel
    have hb := fb_pow h2 h3 hk7
    have hl := fb_le p
    have h128 : 2 ^ k ≤ 128 := Nat.pow_le_pow_right (n := 2) (by omega) hk7
    have e6 : wrap64 ((2 : Int) ^ k) = ((2 ^ k : Nat) : Int) := by
      rw [show ((2 : Int) ^ k) = ((2 ^ k : Nat) : Int) by simp]
      generalize 2 ^ k = X at h128 ⊢
      exact wrap_small (by omega) (by omega)
    generalize 2 ^ k = X at *
    by_cases hlt : k < fb p
    · have h1 := hb.2 hlt
      clear hb
      go_wp2_with fail
      go_round
      case rel => exact ⟨k + 1, by omega, by omega, by go_num⟩
      case measure => simp [intOf]; omega
    · have h1 : ¬ (X : Int) < p := fun h => hlt (hb.1 h)
      have hkf : k = fb p := by omega
      have HK := Lib.hid hkf
      clear hb hkf
      go_wp2_with fail
      go_ret
      exact ⟨retI (by rw [HK.out]), rfl⟩
theorem specFieldBits_no (p : Int) (w : World) (hp : p ≤ 9223372036854775807) (hf : fieldB p = false) :
    Calls Try.prog 50 #[.int .i64 p] w fun e w' => e = .returned (.int .i64 (-1)) ∧ w = w' := by
  have HF := Lib.hid hf
  clear hf
  go_enter Try.func50, Try.ntmps50
  go_wp2_with fail
  refine (specFieldOk_c p _ hp).mono ?_
  rintro e w1 ⟨rfl, rfl⟩
  rw [HF.out]
  go_wp2_with fail
  go_ret
  exact ⟨rfl, rfl⟩
end Go.Proofs.Ythncoohkdmjcaaa
