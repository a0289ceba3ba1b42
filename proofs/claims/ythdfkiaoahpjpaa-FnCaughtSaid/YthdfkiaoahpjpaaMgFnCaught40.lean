/-
  ChosenBy: the bits of a coin as choices.
-/
import Derived.Test.YthdfkiaoahpjpaaMgFnCaught39
namespace Go.Proofs.Ythdfkiaoahpjpaa
open Go.RowKit
set_option linter.unusedVariables false
set_option linter.unusedSimpArgs false
def chosen (x n : Nat) : List Bool := (List.range n).map fun i => bitAt x i == 1
theorem chosen_succ (x n : Nat) : chosen x (n + 1) = chosen x n ++ [bitAt x n == 1] := by simp [chosen, List.range_succ]
set_option maxHeartbeats 400000 in
theorem implChosenBy_yes (x n : Nat) (w : World) (h2 : n ≤ 8) (h4 : x ≤ 4294967295) :
    Calls Try.prog 45 #[.int .i64 x, .int .i64 n] w fun e w' => ∃ v, e = .returned v ∧ w'.ownsRow w.heap.size 4 1 v n ((chosen x n).map Value.bool) ∧ w.grownBy w' none := by
  have hd : decide ((n : Int) ≤ 8) = true := by simp; omega
  have hx : decide ((x : Int) ≤ 4294967295) = true := by simp; omega
  go_enter Try.func45, Try.ntmps45
  go_wp2
  go_loopw [5, 6] (fun s i wr => ∃ k : Nat, k ≤ n ∧ i = .int .i64 k ∧ wr.ownsRow w.heap.size 4 1 s k ((chosen x k).map Value.bool) ∧ w.grownBy wr none) (fun _ i _ => n - (intOf i).toNat)
  case atStart => exact ⟨0, Nat.zero_le _, rfl, World.ownsRow_made w #[] 0 (Nat.le_refl _) (by simp) rfl, gbA (gbR _ _) _⟩
  case round =>
    obtain ⟨k, hk, rfl, hown, hg⟩ := hrel
    by_cases hlt : k < n
    · have d1 : decide ((k : Int) < (n : Int)) = true := by simp; omega
      go_wp2_with (first | (at_builtin; refine wp_append1 wr el_bool rfl (.tmp 21) (.tmp 27) rfl _ rfl (by simp [Value.oneCell']) w.heap.size _ k _ hown rfl rfl (by unfold maxLen; omega) (by omega) hg.size ?_; intro v' w1 hown1 hgrow) | go_in)
      have h1 := Lib.hid (show w1.ownsRow w.heap.size 4 1 v' (k + 1) ((chosen x (k + 1)).map Value.bool) by
        rw [chosen_succ, List.map_append]
        simpa [bit_and] using hown1)
      have h2 := Lib.hid (gbN hg hgrow fun g e => (hown.lt g e).1)
      clear hown1 hgrow hown hg
      go_wp2_with fail
      go_roundw
      case rel => exact ⟨k + 1, by omega, by go_num, h1.out, h2.out⟩
      case measure => simp [intOf]; omega
    · have hkn : k = n := by omega
      subst hkn
      have d1 : decide ((k : Int) < (k : Int)) = false := by simp
      go_wp2_with (first | go_in)
      go_ret
      exact ⟨_, rfl, hown, hg⟩
end Go.Proofs.Ythdfkiaoahpjpaa
/-
  A wrong copy, in plain lists: where it is found.
-/
namespace Go.Proofs.Ythdfkiaoahpjpaa
open Go.RowKit
set_option linter.unusedVariables false
set_option linter.unusedSimpArgs false
theorem flat_dec (xs : List PbM) (k : Nat) (hk : k < xs.length) (d : List Int) : (xs.flatMap cpb).set (k * 3 + 2) (cints d) = (xs.set k { pbAt xs k with ds := d }).flatMap cpb := by
  have hlen : (xs.flatMap cpb).length = xs.length * 3 := flat_len (sz := 3) (fun _ => rfl) xs
  apply List.ext_getElem?
  intro j
  rw [List.getElem?_set, hlen, flat_get' (sz := 3) (fun _ => rfl) (by omega) xs, flat_get' (sz := 3) (fun _ => rfl) (by omega) (xs.set k _), List.getElem?_set]
  have hm : j % 3 < 3 := Nat.mod_lt _ (by omega)
  by_cases e : k = j / 3
  · subst e
    rw [if_pos rfl, if_pos hk]
    have h3 : j % 3 = 0 ∨ j % 3 = 1 ∨ j % 3 = 2 := by omega
    have hx := pbAt_at hk
    rcases h3 with h3 | h3 | h3
    · rw [if_neg (by omega), hx, h3]
      rfl
    · rw [if_neg (by omega), hx, h3]
      rfl
    · rw [if_pos (by omega), if_pos (by omega), h3]
      rfl
  · rw [if_neg e, if_neg (by omega)]
theorem RdAll.put {w : World} {cs : List CS} {vs : List Value} {c : CS} {u : Value} (h : RdAll w cs vs) (hu : c.rd w u) (k : Nat) : RdAll w (cs.set k c) (vs.set k u) := by
  refine ⟨by simp [h.1], fun i d v hd hv => ?_⟩
  rw [List.getElem?_set] at hd hv
  by_cases e : k = i
  · subst e
    rw [if_pos rfl] at hd hv
    split at hd
    · split at hv
      · injection hd with hd; injection hv with hv
        subst hd; subst hv
        exact hu
      · cases hv
    · cases hd
  · rw [if_neg e] at hd hv
    exact h.2 i d v hd hv
theorem cpubs_dec {wl w' : World} {lo g n c k : Nat} {xs : List PbM} {vs : List Value} {d : List Int} {u : Value} (hR : RdAll wl (xs.flatMap cpb) vs) (hg : wl.grownBy w' none) (ho : w'.ownsRow lo 70 3 (.slice (some ⟨g, 0, none⟩) n c) n (vs.set (k * 3 + 2) u)) (hu : (cints d).rd w' u) (hk : k < xs.length) (hl : xs.length = n) :
    (cpubs (xs.set k { pbAt xs k with ds := d })).rd w' (.slice (some ⟨g, 0, none⟩) n c) := by
  obtain ⟨A, c', e, hc, hm, hr⟩ := own_rd2 ho
  injection e with e1 e2 e3
  subst e1; subst e3
  refine lst_mk (s := 3) (fun _ => rfl) (by simp [hl]) hc hm ?_ hr
  rw [← flat_dec xs k hk d]
  exact (hR.grow hg).put hu _
theorem pbAt_set {xs : List PbM} {k j : Nat} {p : PbM} (hk : k < xs.length) : pbAt (xs.set k p) j = if j = k then p else pbAt xs j := by
  unfold pbAt
  rw [List.getD_eq_getElem?_getD, List.getElem?_set, List.getD_eq_getElem?_getD]
  by_cases e : k = j
  · subst e
    rw [if_pos rfl, if_pos hk, if_pos rfl]
    rfl
  · rw [if_neg e, if_neg (fun h => e h.symm)]
theorem badAt_same (xs : List PbM) (ch : List Bool) (j : Nat) : badAt xs xs ch j = false := by
  unfold badAt
  rw [sameP_refl]
  simp
theorem sameP_dec (p : PbM) (z : Int) (ds : List Int) (h : p.ds = z :: ds) : sameP { p with ds := (1 - z) :: ds } p = false := by
  unfold sameP
  rw [h]
  have h1 : ¬ (1 - z = z) := by omega
  simp [h1]
theorem found {xs : List PbM} {ch : List Bool} {k n : Nat} {z : Int} {ds : List Int} (hk : k < xs.length) (hn : k < n) (h : (pbAt xs k).ds = z :: ds) : firstB (badAt (xs.set k { pbAt xs k with ds := (1 - z) :: ds }) xs ch) n = if ch.getD k false = true then (k : Int) else -1 := by
  have hb : ∀ j, badAt (xs.set k { pbAt xs k with ds := (1 - z) :: ds }) xs ch j = (ch.getD j false && decide (j = k)) := fun j => by
    unfold badAt
    rw [pbAt_set hk]
    by_cases e : j = k
    · subst e
      rw [if_pos rfl, sameP_dec _ z ds h]
      simp
    · rw [if_neg e, sameP_refl]
      simp [e]
  by_cases hc : ch.getD k false = true
  · rw [if_pos hc]
    exact firstB_some (fun j hj => by rw [hb]; simp; omega) (by rw [hb, hc]; simp) hn
  · rw [if_neg hc]
    refine firstB_none fun j hj => ?_
    rw [hb]
    by_cases e : j = k
    · subst e
      simp at hc
      simp [hc]
    · simp [e]
theorem chosen_at (x n k : Nat) (hk : k < n) : (chosen x n).getD k false = (bitAt x k == 1) := by
  unfold chosen
  rw [List.getD_eq_getElem?_getD, List.getElem?_map, List.getElem?_range hk]
  rfl
theorem chosen_len (x n : Nat) : (chosen x n).length = n := by simp [chosen]
theorem decTo_bit (m : CM) (zs : List Int) (k : Nat) : ∀ z ∈ decTo m zs k, z = 0 ∨ z = 1 := by
  intro z hz
  unfold decTo at hz
  obtain ⟨u, _, rfl⟩ := List.mem_map.1 hz
  rcases bit01 ((zs.getD u.toNat 0).toNat) with h | h <;> rw [h] <;> simp
def seedL (qs : List Int) (n : Nat) : List Int := (qs.drop 1).take n
theorem ints_sub {w : World} {b o m : Nat} {qs : List Int} (h : Ints w (some ⟨b, o, none⟩) m qs) (j n : Nat) (hn : j + n ≤ m) (h0 : 0 < m) : Ints w (some ⟨b, o + j, none⟩) n ((qs.drop j).take n) := by
  have hl := h.len
  obtain ⟨b', o', e, hb, hc⟩ := h.at_ h0
  injection e with e
  injection e with e1 e2 _
  subst e1; subst e2
  refine ⟨by simp; omega, fun hp => ⟨_, _, rfl, hb, fun i hi => ?_⟩⟩
  have := hc (j + i) (by omega)
  rw [Nat.add_assoc, this, List.getElem?_map, List.getElem?_take, if_pos (by omega), List.getElem?_drop, List.getD_eq_getElem?_getD]
  rw [List.getElem?_eq_getElem (show j + i < qs.length by omega)]
  rfl
end Go.Proofs.Ythdfkiaoahpjpaa
