/-
  More draws: once in n, a list of numbers below p, a word.
-/
import Derived.Test.YtapljpcpmdlppaaMgFnArithmetics20
import Derived.Test.YtapljpcpmdlppaaMgFnArithmetics7
namespace Go.Proofs.Ytapljpcpmdlppaa
open Go.RowKit
set_option linter.unusedVariables false
set_option linter.unusedSimpArgs false
theorem Chg.rdk {S : Nat → Prop} {w w' : World} {sz n : Nat} {A : Option Addr} {xs : List Value} (h : Rd w sz A n xs) (k : Chg S w w') (hs : 0 < n → ∀ a, A = some a → ¬ S a.block) : Rd w' sz A n xs := by
  rcases Nat.eq_zero_or_pos n with h0 | h0
  · exact ⟨h.1, fun hn => by omega⟩
  · exact Chg.rd h k (hs h0)
/-- A cursor whose own block stands as it was. -/
theorem Cur.kept {S : Nat → Prop} {w w' : World} {g : Nat} {A : Option Addr} {n c : Nat} {bs : List Int} (h : Cur w g A n c bs) (k : Chg S w w') (hg : w'.heap[g]? = w.heap[g]?) (hs : 0 < n → ∀ a, A = some a → ¬ S a.block) : Cur w' g A n c bs := by
  obtain ⟨⟨i, hh, hi, hb⟩, k2, k3, k4, k5⟩ := h
  exact ⟨⟨i, hh, hi, hg.trans hb⟩, Chg.rdk k2 k hs, k3, k4, k5⟩
/-- Where the bytes lie: not in a block that is new since w. -/
theorem Cur.old {w : World} {g : Nat} {A : Option Addr} {n c : Nat} {bs : List Int} (h : Cur w g A n c bs) {y : Nat} (hy : w.heap.size ≤ y) : 0 < n → ∀ a, A = some a → a.block ≠ y := fun hn a ha e => by
  obtain ⟨b, o, rfl, hb, _⟩ := h.bytes.2 (by omega)
  injection ha with ha
  subst ha
  simp only at e
  omega
theorem gbC {a b c : World} {r : Option Nat} {S : Nat → Prop} (h : a.grownBy b r) (k : Chg S b c) (hs : ∀ i, S i → some i = r ∨ a.heap.size ≤ i) : a.grownBy c r :=
  ⟨k.os.trans h.os, k.tape.trans h.tape, k.output.trans h.output, Nat.le_trans h.size k.size, fun i hi hr => (k.block i (Nat.lt_of_lt_of_le hi h.size) fun hS => by
    rcases hs i hS with e | e
    · exact hr e
    · omega).trans (h.block i hi hr)⟩
set_option maxHeartbeats 400000 in
theorem l01Once_c (w : World) (m : Int) (hm : m ≤ 1099511627776) (g : Nat) (A : Option Addr) (n c : Nat) (bs : List Int) (hc : Cur w g A n c bs) :
    Calls Try.prog 189 #[.pointer (some ⟨g, 0, none⟩), .int .i64 m] w fun e w' => ∃ b : Bool, e = .returned (.bool b) ∧ Cur w' g A n c bs ∧ w.grownBy w' (some g) := by
  have HC := Lib.hid hc
  clear hc
  go_enter Try.func189, Try.ntmps189
  go_wp2_with fail
  refine (l01Below_c _ m hm g A n c bs HC.out).mono ?_
  rintro e w1 ⟨x, rfl, hx0, hx1, hc1, hg1⟩
  have H1 := Lib.hid hc1
  clear hc1
  go_wp2_with fail
  go_ret
  exact ⟨_, rfl, H1.out, hg1⟩
set_option maxHeartbeats 400000 in
theorem l02Word_c (w : World) (g : Nat) (A : Option Addr) (n c : Nat) (bs : List Int) (hc : Cur w g A n c bs) :
    Calls Try.prog 190 #[.pointer (some ⟨g, 0, none⟩)] w fun e w' => ∃ x : Int, e = .returned (.int .i64 x) ∧ (0 ≤ x ∧ x ≤ 4294967295) ∧ Cur w' g A n c bs ∧ w.grownBy w' (some g) := by
  have HC := Lib.hid hc
  clear hc
  go_enter Try.func190, Try.ntmps190
  go_wp2_with fail
  refine (l01Below_c _ 4 (by omega) g A n c bs HC.out).mono ?_
  rintro e w1 ⟨x, rfl, hx0, hx1, hc1, hg1⟩
  have H1 := Lib.hid hc1
  have hlt := hc1.lt
  clear hc1 hx1
  by_cases h0 : x = 0
  · subst h0
    go_wp2_with fail
    refine (l01PickInt_c _ _ 5 5 [0, 1, 4294967295, 2147483648, 65536] (ints_new w1 _ [0, 1, 4294967295, 2147483648, 65536]) (by omega) (by omega) g (fun a ha e => by injection ha with ha; subst ha; injection e with e; simp at e; omega) A n c bs (H1.out.grow (gbA (gbR _ _) _))).mono ?_
    rintro e w2 ⟨y, rfl, hy, hc2, hg2⟩
    have H2 := Lib.hid hc2
    have HY := Lib.hid hy
    have G2 := Lib.hid (gbNN hg1 (gbT (gbW (gbA (gbR w1 none) _)) hg2) (fun _ h => .inr (by rw [h])))
    clear hc2 hy hg2
    go_wp2_with fail
    go_ret
    refine ⟨y, rfl, ?_, H2.out, G2.out⟩
    have := HY.out
    simp at this
    omega
  · have d0 : (x == 0) = false := by simpa using h0
    by_cases h1 : x = 1
    · subst h1
      go_wp2_with fail
      refine (l01Below_c _ 200 (by omega) g A n c bs H1.out).mono ?_
      rintro e w2 ⟨y, rfl, hy0, hy1, hc2, hg2⟩
      have H2 := Lib.hid hc2
      clear hc2
      go_wp2_with fail
      go_ret
      exact ⟨y, rfl, ⟨hy0, by have := hy1 (by omega); omega⟩, H2.out, gbT hg1 hg2⟩
    · have d1 : (x == 1) = false := by simpa using h1
      go_wp2_with fail
      refine (l01Below_c _ 65536 (by omega) g A n c bs H1.out).mono ?_
      rintro e w2 ⟨y, rfl, hy0, hy1, hc2, hg2⟩
      have H2 := Lib.hid hc2
      have hy2 := hy1 (by omega)
      clear hc2 hy1
      go_wp2_with fail
      refine (l01Below_c _ 65536 (by omega) g A n c bs H2.out).mono ?_
      rintro e w3 ⟨z, rfl, hz0, hz1, hc3, hg3⟩
      have H3 := Lib.hid hc3
      have hz2 := hz1 (by omega)
      clear hc3 hz1
      go_wp2_with fail
      go_ret
      exact ⟨_, rfl, by omega, H3.out, gbT (gbT hg1 hg2) hg3⟩
set_option maxHeartbeats 800000 in
theorem l03List_c (w : World) (p : Int) (hp : p ≤ 1099511627776) (m : Nat) (hm : m ≤ 1048576) (g : Nat) (A : Option Addr) (n c : Nat) (bs : List Int) (hc : Cur w g A n c bs) :
    Calls Try.prog 157 #[.pointer (some ⟨g, 0, none⟩), .int .i64 p, .int .i64 m] w fun e w' => ∃ (v : Value) (qs : List Int), e = .returned v ∧ w'.ownsRow w.heap.size 3 1 v m (qs.map (Value.int .i64)) ∧ qs.length = m ∧ (∀ q ∈ qs, 0 ≤ q ∧ (1 ≤ p → q < p)) ∧ Cur w' g A n c bs ∧ w.grownBy w' (some g) := by
  have hgl := hc.lt
  have HO := Lib.hid (hc.old (Nat.le_refl _))
  have HC := Lib.hid (hc.grow (gbA (gbR w none) (.cells #[] 3)))
  have HR := Lib.hid (World.ownsRow_made (e := 3) (size := 1) (base := w.heap.size) w #[] 0 (by omega) (by simp) rfl)
  have HG : Hid (w.grownBy (w.alloc (.cells #[] 3)) (some g)) := Lib.hid (gbW (gbA (gbR w none) _))
  have HL : Hid (∀ y, w.heap.size ≤ y → 0 < n → ∀ a, A = some a → a.block ≠ y) := Lib.hid (fun y hy => hc.old hy)
  clear hc
  go_enter Try.func157, Try.ntmps157
  go_wp2_with fail
  go_loopw [7, 8] (fun s i wr => ∃ (k : Nat) (qs : List Int), k ≤ m ∧ i = .int .i64 k ∧ Hid (wr.ownsRow w.heap.size 3 1 s k (qs.map (Value.int .i64))) ∧ Hid (qs.length = k ∧ ∀ q ∈ qs, 0 ≤ q ∧ (1 ≤ p → q < p)) ∧ Hid (Cur wr g A n c bs) ∧ Hid (w.grownBy wr (some g))) (fun _ i _ => m - (intOf i).toNat)
  case atStart => exact ⟨0, [], by omega, rfl, HR.out, ⟨rfl, by simp⟩, HC.out, HG.out⟩
  case round =>
    obtain ⟨k, qs, hk, rfl, hown, hqs, hcur, hg⟩ := hrel
    by_cases hlt : k < m
    · have i1 : (k : Int) < (m : Int) := by omega
      go_wp2_with fail
      refine (l01Below_c _ p hp _ A n c bs hcur.out).mono ?_
      rintro e w2 ⟨x, rfl, hx0, hx1, hc2, hg2⟩
      have hown2 := own_grown hown.out hg2 (by
        cases hb : Value.ownBlock _ with
        | none => exact .inl rfl
        | some b => refine .inr fun e => ?_
                    have := (hown.out.lt b hb).1
                    injection e with e
                    omega)
      have HC2 := Lib.hid hc2
      have HX1 := Lib.hid hx1
      have HG2 := Lib.hid (gbT hg.out hg2)
      have hw2 := hg2.size
      have hw := hg.out.size
      clear hc2 hg2 hx1 hown hcur hg
      go_wp2_with (at_builtin; refine wp_append1 w2 el_int rfl (.tmp 15) (.tmp 19) rfl _ rfl (by simp [Value.oneCell']) w.heap.size _ k _ hown2 rfl rfl (by unfold maxLen; omega) (by omega) (by omega) ?_; intro v' w3 hown3 hgrow)
      have h1 := Lib.hid (show w3.ownsRow w.heap.size 3 1 v' (k + 1) ((qs ++ [x]).map (Value.int .i64)) by simpa using hown3)
      have h2 := Lib.hid (gbNN HG2.out hgrow fun y e => .inl (hown2.lt y e).1)
      have h3 := Lib.hid (show Cur w3 g A n c bs by
        obtain ⟨⟨i, hh, hi, hb⟩, k2, k3, k4, k5⟩ := HC2.out
        have hne : some g ≠ Value.ownBlock _ := fun e => by have := (hown2.lt _ e.symm).1; omega
        exact ⟨⟨i, hh, hi, hb.grown hgrow hne⟩, k2.grown' hgrow (fun hn a ha e => by have := (hown2.lt _ e.symm).1; exact HL.out a.block this hn a ha rfl), k3, k4, k5⟩)
      clear hown3 hgrow hown2
      go_wp2_with fail
      go_roundw
      case rel => exact ⟨k + 1, qs ++ [x], by omega, by go_num, h1.out, ⟨by simp [hqs.out.1], fun q hq => by
        rcases List.mem_append.1 hq with hq | hq
        · exact hqs.out.2 q hq
        · simp at hq; subst hq; exact ⟨hx0, HX1.out⟩⟩, h3.out, h2.out⟩
      case measure => simp [intOf]; omega
    · have hkm : k = m := by omega
      subst hkm
      go_wp2_with fail
      go_ret
      exact ⟨_, qs, rfl, hown.out, hqs.out.1, hqs.out.2, hcur.out, hg.out⟩
end Go.Proofs.Ytapljpcpmdlppaa
