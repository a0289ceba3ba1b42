/-
  The draws: a cursor over bytes. What is drawn lies in its range; nothing else is said of it.
-/
import Derived.Test.YtapljpcpmdlppaaMgFnOtherTapes0
import Derived.Test.YtapljpcpmdlppaaMgFnOtherTapes1
import Derived.Test.YtapljpcpmdlppaaMgFnOtherTapes9
import Derived.Deep.DeepCutAuto
import Derived.Test.YtapljpcpmdlppaaMgFnOtherTapes8
import Derived.Test.YtapljpcpmdlppaaMgFnOtherTapes6
namespace Go.Proofs.Ytapljpcpmdlppaa
open Go.RowKit
set_option linter.unusedVariables false
set_option linter.unusedSimpArgs false
theorem Rd.grown' {w w' : World} {sz n : Nat} {A : Option Addr} {xs : List Value} {r : Option Nat} (h : Rd w sz A n xs) (hg : w.grownBy w' r) (hr : 0 < n → Off A r) : Rd w' sz A n xs := by
  rcases Nat.eq_zero_or_pos n with h0 | h0
  · exact ⟨h.1, fun hn => by omega⟩
  · exact h.grown hg (hr h0)
structure Cur (w : World) (g : Nat) (A : Option Addr) (n c : Nat) (bs : List Int) : Prop where
  blk : ∃ (i : Nat) (h : Int), i ≤ n ∧ Blk w g 162 #[.slice A n c, .int .i64 i, .int .i64 h]
  bytes : Rd w 1 A n (bs.map (Value.int .u8))
  rng : ∀ b ∈ bs, 0 ≤ b ∧ b ≤ 255
  off : 0 < n → Off A (some g)
  small : n ≤ 1048576
theorem Cur.grow {w w' : World} {g : Nat} {A : Option Addr} {n c : Nat} {bs : List Int} (h : Cur w g A n c bs) (hg : w.grownBy w' none) : Cur w' g A n c bs := by
  obtain ⟨⟨i, k, hi, hb⟩, h2, h3, h4, h5⟩ := h
  exact ⟨⟨i, k, hi, hb.grow hg⟩, h2.grow hg, h3, h4, h5⟩
theorem Cur.lt {w : World} {g : Nat} {A : Option Addr} {n c : Nat} {bs : List Int} (h : Cur w g A n c bs) : g < w.heap.size := by
  obtain ⟨⟨i, k, hi, hb⟩, _⟩ := h
  exact hb.lt
theorem and255 (a : Int) : 0 ≤ bits .and .i64 a 255 ∧ bits .and .i64 a 255 ≤ 255 := by
  have h1 : (BitVec.ofInt 64 a &&& BitVec.ofInt 64 255).toNat ≤ 255 := by
    rw [BitVec.toNat_and, show (BitVec.ofInt 64 255).toNat = 255 from rfl]
    exact Nat.and_le_right
  show 0 ≤ IntKind.i64.wrap ((BitVec.ofInt 64 a &&& BitVec.ofInt 64 255).toNat : Int) ∧ IntKind.i64.wrap ((BitVec.ofInt 64 a &&& BitVec.ofInt 64 255).toNat : Int) ≤ 255
  rw [IntKind.wrap_i64]
  omega
theorem byte_at {w : World} {A : Option Addr} {n k : Nat} {bs : List Int} (h : Rd w 1 A n (bs.map (Value.int .u8))) (hk : k < n) :
    ∃ b o, A = some ⟨b, o, none⟩ ∧ b < w.heap.size ∧ w.cell? ⟨b, o + k, none⟩ = some (.int .u8 (bs.getD k 0)) ∧ k < bs.length := by
  obtain ⟨b, o, e, hb, hc⟩ := h.2 (by omega)
  have hl : bs.length = n := by simpa using h.1
  refine ⟨b, o, e, hb, ?_, by omega⟩
  rw [hc k (by omega)]
  simp [List.getElem?_map, List.getD_eq_getElem?_getD, List.getElem?_eq_getElem (show k < bs.length by omega)]
theorem Cur.next {w w' : World} {g : Nat} {A : Option Addr} {n c : Nat} {bs : List Int} {i : Nat} {h : Int} (hi : i ≤ n) (hb : Blk w' g 162 #[.slice A n c, .int .i64 i, .int .i64 h])
    (hby : Rd w 1 A n (bs.map (Value.int .u8))) (hr : ∀ b ∈ bs, 0 ≤ b ∧ b ≤ 255) (ho : 0 < n → Off A (some g)) (hs : n ≤ 1048576) (hg : w.grownBy w' (some g)) : Cur w' g A n c bs :=
  ⟨⟨i, h, hi, hb⟩, hby.grown' hg ho, hr, ho, hs⟩
def ByteOut (w : World) (g : Nat) (A : Option Addr) (n c : Nat) (bs : List Int) (e : Ending) (w' : World) : Prop :=
  ∃ x : Int, e = .returned (.int .i64 x) ∧ 0 ≤ x ∧ x ≤ 255 ∧ Cur w' g A n c bs ∧ w.grownBy w' (some g)
set_option maxHeartbeats 1000000 in
theorem l01Byte_c (w : World) (g : Nat) (A : Option Addr) (n c : Nat) (bs : List Int) (hc : Cur w g A n c bs) :
    Calls Try.prog 155 #[.pointer (some ⟨g, 0, none⟩)] w (ByteOut w g A n c bs) := by
  obtain ⟨⟨i, h, hi, hb⟩, hby, hr, ho, hs⟩ := hc
  have c0 := hb.cell 0
  have c1 := hb.cell 1
  have c2 := hb.cell 2
  have f2 := hb.frozen 2
  have f1 := hb.frozen 1
  simp at c0 c1 c2
  by_cases hlt : i < n
  · obtain ⟨b, o, rfl, hbl, cb, hkl⟩ := byte_at hby hlt
    have hne : b ≠ g := fun e => ho (by omega) _ rfl (by simp [e])
    have hne' : g ≠ b := fun e => hne e.symm
    have il : (i : Int) < (n : Int) := by omega
    have hbr := hr _ (List.getElem_mem hkl)
    rw [← getI bs i hkl] at hbr
    generalize bs.getD i 0 = y at *
    obtain ⟨hy0, hy1⟩ := hbr
    have HB := Lib.hid hb
    have HBY := Lib.hid hby
    have HR := Lib.hid hr
    have HO := Lib.hid ho
    clear hb hby hr ho
    go_enter Try.func155, Try.ntmps155
    go_wp2_with fail
    go_quiet (fail)
    go_wp2_with fail
    go_quiet (fail)
    go_wp2_with fail
    go_quiet (fail)
    go_wp2_with fail
    go_ret
    generalize hA : (bits .and .i64 (bits .xor .i64 (wrap64 (wrap64 (h * 6364136223846793005) + 1442695040888963407) / 8589934592) (wrap64 (wrap64 (h * 6364136223846793005) + 1442695040888963407) / 35184372088832)) 255) = z
    clear hA
    refine ⟨_, rfl, (and255 _).1, (and255 _).2, Cur.next (by omega : i + 1 ≤ n) (((HB.out.set_ 2 _).set_ 1 _)) HBY.out HR.out HO.out hs ?_, ?_⟩
    all_goals (repeat (first | exact gbR _ _ | refine gbDN ?_ _ | refine gbO ?_ _))
  · have hin : i = n := by omega
    subst hin
    have il : decide ((i : Int) < (i : Int)) = false := by simp
    have HB := Lib.hid hb
    have HBY := Lib.hid hby
    have HR := Lib.hid hr
    have HO := Lib.hid ho
    clear hb hby hr ho hlt
    go_enter Try.func155, Try.ntmps155
    go_wp2_with fail
    go_quiet (fail)
    go_wp2_with fail
    go_quiet (fail)
    go_wp2_with fail
    go_ret
    refine ⟨_, rfl, (and255 _).1, (and255 _).2, Cur.next (Nat.le_refl _) (HB.out.set_ 2 _) HBY.out HR.out HO.out hs ?_, ?_⟩
    all_goals (repeat (first | exact gbR _ _ | refine gbDN ?_ _ | refine gbO ?_ _))
def BelowOut (w : World) (m : Int) (g : Nat) (A : Option Addr) (n c : Nat) (bs : List Int) (e : Ending) (w' : World) : Prop :=
  ∃ x : Int, e = .returned (.int .i64 x) ∧ 0 ≤ x ∧ (1 ≤ m → x < m) ∧ Cur w' g A n c bs ∧ w.grownBy w' (some g)
set_option maxHeartbeats 1000000 in
theorem l01Below_c (w : World) (m : Int) (hm : m ≤ 1099511627776) (g : Nat) (A : Option Addr) (n c : Nat) (bs : List Int) (hc : Cur w g A n c bs) :
    Calls Try.prog 86 #[.pointer (some ⟨g, 0, none⟩), .int .i64 m] w (BelowOut w m g A n c bs) := by
  have HC := Lib.hid hc
  clear hc
  by_cases h0 : m ≤ 0
  · go_enter Try.func86, Try.ntmps86
    go_wp2_with fail
    go_ret
    exact ⟨0, rfl, by omega, fun h => by omega, HC.out, gbR _ _⟩
  · by_cases h1 : m ≤ 256
    · go_enter Try.func86, Try.ntmps86
      go_wp2_with fail
      refine (l01Byte_c _ g A n c bs HC.out).mono ?_
      rintro e w1 ⟨x, rfl, hx0, hx1, hc1, hg1⟩
      have H1 := Lib.hid hc1
      clear hc1
      go_wp2_with fail
      go_ret
      exact ⟨_, rfl, Int.emod_nonneg _ (by omega), fun h => Int.emod_lt_of_pos _ (by omega), H1.out, hg1⟩
    · go_enter Try.func86, Try.ntmps86
      go_wp2_with fail
      refine (l01Byte_c _ g A n c bs HC.out).mono ?_
      rintro e w1 ⟨x, rfl, hx0, hx1, hc1, hg1⟩
      have H1 := Lib.hid hc1
      clear hc1
      go_wp2_with fail
      refine (l01Byte_c _ g A n c bs H1.out).mono ?_
      rintro e w2 ⟨y, rfl, hy0, hy1, hc2, hg2⟩
      have H2 := Lib.hid hc2
      clear hc2
      go_wp2_with fail
      refine (l01Byte_c _ g A n c bs H2.out).mono ?_
      rintro e w3 ⟨z, rfl, hz0, hz1, hc3, hg3⟩
      have H3 := Lib.hid hc3
      clear hc3
      go_wp2_with fail
      refine (l01Byte_c _ g A n c bs H3.out).mono ?_
      rintro e w4 ⟨u, rfl, hu0, hu1, hc4, hg4⟩
      have H4 := Lib.hid hc4
      clear hc4
      go_wp2_with fail
      go_ret
      exact ⟨_, rfl, Int.emod_nonneg _ (by omega), fun h => Int.emod_lt_of_pos _ (by omega), H4.out, gbT (gbT (gbT hg1 hg2) hg3) hg4⟩
structure BytesIn (w : World) (A : Option Addr) (n : Nat) (bs : List Int) : Prop where
  bytes : Rd w 1 A n (bs.map (Value.int .u8))
  rng : ∀ b ∈ bs, 0 ≤ b ∧ b ≤ 255
  small : n ≤ 1048576
theorem BytesIn.grow {w w' : World} {A : Option Addr} {n : Nat} {bs : List Int} (h : BytesIn w A n bs) (hg : w.grownBy w' none) : BytesIn w' A n bs := ⟨h.bytes.grow hg, h.rng, h.small⟩
theorem BytesIn.off {w : World} {A : Option Addr} {n : Nat} {bs : List Int} (h : BytesIn w A n bs) {r : Option Nat} (hg : ∀ g, r = some g → w.heap.size ≤ g) : 0 < n → Off A r := fun hn a ha e => by
  obtain ⟨b, o, rfl, hb, _⟩ := h.bytes.2 hn
  injection ha with ha
  subst ha
  have := hg b e.symm
  omega
set_option maxHeartbeats 400000 in
theorem l01New_c (w : World) (A : Option Addr) (n c : Nat) (bs : List Int) (h : BytesIn w A n bs) :
    Calls Try.prog 85 #[.slice A n c] w fun e w' => e = .returned (.pointer (some ⟨w.heap.size, 0, none⟩)) ∧ Cur w' w.heap.size A n c bs ∧ w.grownBy w' none ∧ w.heap.size + 1 = w'.heap.size := by
  have hn := h.small
  have H := Lib.hid h
  clear h
  go_enter Try.func85, Try.ntmps85
  go_wp2_with fail
  go_loop [3, 4] (fun s i => ∃ (k : Nat) (h : Int), k ≤ n ∧ i = .int .i64 k ∧ s = .int .i64 h) (fun _ i => n - (intOf i).toNat)
  case atStart => exact ⟨0, _, Nat.zero_le _, rfl, rfl⟩
  case round =>
    obtain ⟨k, h, hk, rfl, rfl⟩ := hrel
    by_cases hlt : k < n ∧ k < 4000
    · obtain ⟨h1, h2⟩ := hlt
      obtain ⟨b, o, rfl, hb, c1, hkl⟩ := byte_at H.out.bytes h1
      have i1 : (k : Int) < (n : Int) := by omega
      have d2 : decide ((k : Int) < 4000) = true := by simp; omega
      generalize bs.getD k 0 = y at *
      go_wp2_with fail
      go_round
      case rel => exact ⟨k + 1, _, by omega, by go_num, rfl⟩
      case measure => simp [intOf]; omega
    · by_cases h1 : k < n
      · have d1 : decide ((k : Int) < (n : Int)) = true := by simp; omega
        have d2 : decide ((k : Int) < 4000) = false := by simp; omega
        clear hlt
        go_wp2_with fail
        go_ret
        refine ⟨rfl, ⟨⟨0, _, Nat.zero_le _, Blk.new w _ _⟩, (H.out.grow (gbA (gbR _ _) _)).bytes, H.out.rng, H.out.off (fun g e => by injection e with e; omega), hn⟩, gbA (gbR _ _) _, by simp⟩
      · have d1 : decide ((k : Int) < (n : Int)) = false := by simp; omega
        clear hlt
        go_wp2_with fail
        go_ret
        refine ⟨rfl, ⟨⟨0, _, Nat.zero_le _, Blk.new w _ _⟩, (H.out.grow (gbA (gbR _ _) _)).bytes, H.out.rng, H.out.off (fun g e => by injection e with e; omega), hn⟩, gbA (gbR _ _) _, by simp⟩
def Places (qs : List Int) : Prop := qs.length = 12 ∧ ∀ q ∈ qs, 0 ≤ q ∧ q < 10000
set_option maxHeartbeats 800000 in
theorem DrawPlaces_c (w : World) (A : Option Addr) (n c : Nat) (bs : List Int) (h : BytesIn w A n bs) :
    Calls Try.prog 28 #[.slice A n c] w fun e w' => ∃ v qs, e = .returned v ∧ w'.ownsRow w.heap.size 3 1 v 12 (qs.map (Value.int .i64)) ∧ Places qs ∧ w.grownBy w' none := by
  have H := Lib.hid h
  clear h
  go_enter Try.func28, Try.ntmps28
  go_wp2_with fail
  refine (l01New_c _ A n c bs H.out).mono ?_
  rintro e w1 ⟨rfl, hc1, hg1, hz1⟩
  have HC := Lib.hid (hc1.grow (gbA (gbR _ none) (.cells #[] 3)))
  have HG := Lib.hid (gbA hg1 (.cells #[] 3))
  have HO := Lib.hid (World.ownsRow_made (e := 3) (size := 1) (base := w.heap.size + 1) w1 #[] 0 (by omega) (by simp) rfl)
  have HZ := Lib.hid hz1
  clear hc1 hg1 hz1
  go_wp2_with fail
  go_loopw [4, 5] (fun s i wr => ∃ (k : Nat) (qs : List Int), k ≤ 12 ∧ i = .int .i64 k ∧ Hid (wr.ownsRow (w.heap.size + 1) 3 1 s k (qs.map (Value.int .i64))) ∧ Hid (qs.length = k ∧ ∀ q ∈ qs, 0 ≤ q ∧ q < 10000) ∧ Hid (Cur wr w.heap.size A n c bs) ∧ Hid (w.grownBy wr none)) (fun _ i _ => 12 - (intOf i).toNat)
  case atStart => exact ⟨0, [], by omega, rfl, HO.out, ⟨rfl, by simp⟩, HC.out, HG.out⟩
  case round =>
    obtain ⟨k, qs, hk, rfl, hown, hqs, hcur, hg⟩ := hrel
    by_cases hlt : k < 12
    · go_wp2_with fail
      refine (l01Below_c _ 10000 (by omega) _ A n c bs hcur.out).mono ?_
      rintro e w2 ⟨x, rfl, hx0, hx1, hc2, hg2⟩
      have hx2 := hx1 (by omega)
      have hown2 := own_grown hown.out hg2 (by
        cases hb : Value.ownBlock _ with
        | none => exact .inl rfl
        | some b => refine .inr fun e => ?_
                    have := (hown.out.lt b hb).1
                    injection e with e
                    omega)
      have HC2 := Lib.hid hc2
      have HG2 := Lib.hid (gbN hg.out hg2 (fun b e => by injection e with e; omega))
      clear hc2 hg2 hx1 hown hcur hg
      go_wp2_with (at_builtin; refine wp_append1 w2 el_int rfl (.tmp 13) (.tmp 16) rfl _ rfl (by simp [Value.oneCell']) (w.heap.size + 1) _ k _ hown2 rfl rfl (by unfold maxLen; omega) (by omega) HC2.out.lt ?_; intro v' w3 hown3 hgrow)
      have h1 := Lib.hid (show w3.ownsRow (w.heap.size + 1) 3 1 v' (k + 1) ((qs ++ [x]).map (Value.int .i64)) by simpa using hown3)
      have h2 := Lib.hid (gbN HG2.out hgrow fun g e => by have := (hown2.lt g e).1; omega)
      have h3 := Lib.hid (show Cur w3 w.heap.size A n c bs by
        obtain ⟨⟨i, hh, hi, hb⟩, k2, k3, k4, k5⟩ := HC2.out
        have hne : some w.heap.size ≠ Value.ownBlock _ := fun e => by have := (hown2.lt _ e.symm).1; omega
        exact ⟨⟨i, hh, hi, hb.grown hgrow hne⟩, k2.grown' hgrow (H.out.off fun g e => by have := (hown2.lt g e).1; omega), k3, k4, k5⟩)
      clear hown3 hgrow hown2
      go_wp2_with fail
      go_roundw
      case rel => exact ⟨k + 1, qs ++ [x], by omega, by go_num, h1.out, ⟨by simp [hqs.out.1], fun q hq => by
        rcases List.mem_append.1 hq with hq | hq
        · exact hqs.out.2 q hq
        · simp at hq; subst hq; exact ⟨hx0, hx2⟩⟩, h3.out, h2.out⟩
      case measure => simp [intOf]; omega
    · have hk12 : k = 12 := by omega
      subst hk12
      go_wp2_with fail
      go_ret
      exact ⟨_, qs, rfl, own_base hown.out (by omega), hqs.out, hg.out⟩
end Go.Proofs.Ytapljpcpmdlppaa
/-
  A draw out of a list.
-/
namespace Go.Proofs.Ytapljpcpmdlppaa
open Go.RowKit
set_option linter.unusedVariables false
set_option linter.unusedSimpArgs false
def PickOut (w : World) (l : List Int) (g : Nat) (A : Option Addr) (n c : Nat) (bs : List Int) (e : Ending) (w' : World) : Prop :=
  ∃ x : Int, e = .returned (.int .i64 x) ∧ x ∈ l ∧ Cur w' g A n c bs ∧ w.grownBy w' (some g)
set_option maxHeartbeats 400000 in
theorem l01PickInt_c (w : World) (B : Option Addr) (m d : Nat) (l : List Int) (hl : Ints w B m l) (hm : 1 ≤ m) (hm2 : m ≤ 1099511627776) (g : Nat) (hB : Off B (some g)) (A : Option Addr) (n c : Nat) (bs : List Int) (hc : Cur w g A n c bs) :
    Calls Try.prog 154 #[.pointer (some ⟨g, 0, none⟩), .slice B m d] w (PickOut w l g A n c bs) := by
  have HC := Lib.hid hc
  have HL := Lib.hid hl
  have LL := Lib.hid hl.len
  clear hc hl
  go_enter Try.func154, Try.ntmps154
  go_wp2_with fail
  refine (l01Below_c _ m (by omega) g A n c bs HC.out).mono ?_
  rintro e w1 ⟨x, rfl, hx0, hx1, hc1, hg1⟩
  have H1 := Lib.hid hc1
  clear hc1
  obtain ⟨k, rfl⟩ := Int.eq_ofNat_of_zero_le hx0
  have hk : k < m := by have := hx1 (by omega); omega
  have i1 : (k : Int) < (m : Int) := by omega
  obtain ⟨b, o, rfl, hb, c1⟩ := (HL.out.grown hg1 hB).cell hk
  have hkl : k < l.length := by have := LL.out; omega
  rw [getI l k hkl] at c1
  clear hx1
  go_wp2_with fail
  go_ret
  exact ⟨_, rfl, List.getElem_mem hkl, H1.out, hg1⟩
end Go.Proofs.Ytapljpcpmdlppaa
/-
  FnSubsets' walk.
-/
namespace Go.Proofs.Ytapljpcpmdlppaa
open Go.RowKit
set_option linter.unusedVariables false
set_option linter.unusedSimpArgs false
theorem bytesIn {w : World} {A : Option Addr} {n : Nat} {zs : List Int} (h : IntsK .u8 w A n zs) (hn : n ≤ 1048576) : BytesIn w A n zs := ⟨h.1, fun b hb => wf_u8 (h.2 b hb), hn⟩
theorem Places.at_ {qs : List Int} (h : Places qs) (k : Nat) (hk : k < 12) : 0 ≤ qs.getD k 0 ∧ qs.getD k 0 < 10000 := by
  obtain ⟨hl, hq⟩ := h
  rw [getI qs k (by omega)]
  exact hq _ (List.getElem_mem _)
theorem big_c (w : World) (A : Option Addr) (n c : Nat) (hn : n ≤ 9223372036854775807) :
    Calls Try.prog 26 #[.slice A n c] w fun e w' => e = .returned (.bool (decide (1048576 < n))) ∧ w = w' := by
  by_cases h : 1048576 < n
  · have h1 : (1048576 : Int) < (n : Int) := by omega
    go_enter Try.func26, Try.ntmps26
    go_wp2_with fail
    go_ret
    exact ⟨retB (by first | (simp; done) | (simp; omega)), rfl⟩
  · have h1 : ¬ (1048576 : Int) < (n : Int) := by omega
    go_enter Try.func26, Try.ntmps26
    go_wp2_with fail
    go_ret
    exact ⟨retB (by first | (simp; done) | (simp; omega)), rfl⟩
end Go.Proofs.Ytapljpcpmdlppaa
/-
  A drawn prime; FnConverted's walk.
-/
namespace Go.Proofs.Ytapljpcpmdlppaa
open Go.RowKit
set_option linter.unusedVariables false
set_option linter.unusedSimpArgs false
theorem ints_new (w : World) (t : TypeId) (zs : List Int) : Ints (w.alloc (.cells (zs.map (Value.int .i64)).toArray t)) (some ⟨w.heap.size, 0, none⟩) zs.length zs := by
  refine ⟨by simp, fun _ => ⟨w.heap.size, 0, rfl, by simp, fun j hj => ?_⟩⟩
  rw [cell_of_row _ _ _ _ t (0, 0) (heap_alloc_new w _)]
  simp
def nine : List Int := [2, 3, 5, 7, 11, 13, 31, 97, 101]
theorem nine_field : ∀ p ∈ nine, fieldB p = true := by decide
set_option maxHeartbeats 400000 in
theorem l03Prime_c (w : World) (g : Nat) (A : Option Addr) (n c : Nat) (bs : List Int) (hc : Cur w g A n c bs) :
    Calls Try.prog 84 #[.pointer (some ⟨g, 0, none⟩)] w fun e w' => ∃ x : Int, e = .returned (.int .i64 x) ∧ x ∈ nine ∧ Cur w' g A n c bs ∧ w.grownBy w' (some g) := by
  have HC := Lib.hid hc
  have hlt := hc.lt
  clear hc
  go_enter Try.func84, Try.ntmps84
  go_wp2_with fail
  refine (l01PickInt_c _ _ 9 9 nine (ints_new w _ nine) (by omega) (by omega) g (fun a ha e => by injection ha with ha; subst ha; injection e with e; simp at e; omega) A n c bs (HC.out.grow (gbA (gbR _ _) _))).mono ?_
  rintro e w1 ⟨x, rfl, hx, hc1, hg1⟩
  have H1 := Lib.hid hc1
  have HX := Lib.hid hx
  have G1 := Lib.hid (gbT (gbW (gbA (gbR w none) _)) hg1)
  clear hc1 hx hg1
  go_wp2_with fail
  go_ret
  exact ⟨x, rfl, HX.out, H1.out, G1.out⟩
end Go.Proofs.Ytapljpcpmdlppaa
/-
  FnXorField's walk.
-/
namespace Go.Proofs.Ytapljpcpmdlppaa
open Go.RowKit
set_option linter.unusedVariables false
set_option linter.unusedSimpArgs false
theorem take_snoc' (zs : List Int) (k : Nat) (h : k < zs.length) : zs.take (k + 1) = zs.take k ++ [zs.getD k 0] := by
  rw [List.take_succ_eq_append_getElem h, getI zs k h]
end Go.Proofs.Ytapljpcpmdlppaa
/-
  FAdd, FSub, FMul, FSum: reference and program, on elements.
-/
namespace Go.Proofs.Ytapljpcpmdlppaa
open Go.RowKit
set_option linter.unusedVariables false
set_option linter.unusedSimpArgs false
theorem fsub_i {p a b : Int} : (a - b + p) % p = (a - b) % p := by rw [Int.add_emod_right]
set_option maxHeartbeats 400000 in
theorem implFAdd_y (p a b : Int) (w : World) (ha : elemB p a = true) (hb : elemB p b = true) :
    Calls Try.prog 88 #[.int .i64 p, .int .i64 a, .int .i64 b] w fun e w' => e = .returned (.int .i64 ((a + b) % p)) ∧ w.grownBy w' none := by
  obtain ⟨_, p2, p101, a0, a1⟩ := elemB_is ha
  obtain ⟨_, _, _, b0, b1⟩ := elemB_is hb
  have HE : Hid (elemsB p [a, b] = true) := by unfold Hid; rw [elemsB_two, ha, hb]; rfl
  clear ha hb
  go_enter Try.func88, Try.ntmps88
  go_wp2_with fail
  refine (implareElements_c p _ 2 2 [a, b] _ (by omega) (by omega) (ints2 w 3 a b) (by omega)).mono ?_
  rintro e w1 ⟨rfl, rfl⟩
  rw [HE.out]
  go_wp2_with fail
  go_ret
  exact ⟨rfl, gbA (gbR _ _) _⟩
set_option maxHeartbeats 400000 in
theorem implFSub_y (p a b : Int) (w : World) (ha : elemB p a = true) (hb : elemB p b = true) :
    Calls Try.prog 186 #[.int .i64 p, .int .i64 a, .int .i64 b] w fun e w' => e = .returned (.int .i64 ((a - b) % p)) ∧ w.grownBy w' none := by
  obtain ⟨_, p2, p101, a0, a1⟩ := elemB_is ha
  obtain ⟨_, _, _, b0, b1⟩ := elemB_is hb
  have HE : Hid (elemsB p [a, b] = true) := by unfold Hid; rw [elemsB_two, ha, hb]; rfl
  clear ha hb
  rw [← fsub_i]
  go_enter Try.func186, Try.ntmps186
  go_wp2_with fail
  refine (implareElements_c p _ 2 2 [a, b] _ (by omega) (by omega) (ints2 w 3 a b) (by omega)).mono ?_
  rintro e w1 ⟨rfl, rfl⟩
  rw [HE.out]
  go_wp2_with fail
  go_ret
  exact ⟨rfl, gbA (gbR _ _) _⟩
set_option maxHeartbeats 400000 in
theorem implFMul_y (p a b : Int) (w : World) (ha : elemB p a = true) (hb : elemB p b = true) :
    Calls Try.prog 89 #[.int .i64 p, .int .i64 a, .int .i64 b] w fun e w' => e = .returned (.int .i64 ((a * b) % p)) ∧ w.grownBy w' none := by
  obtain ⟨_, p2, p101, a0, a1⟩ := elemB_is ha
  obtain ⟨_, _, _, b0, b1⟩ := elemB_is hb
  have HE : Hid (elemsB p [a, b] = true) := by unfold Hid; rw [elemsB_two, ha, hb]; rfl
  clear ha hb
  obtain ⟨m0, m1⟩ := prod_le a0 b0 (show a ≤ 101 by omega) (show b ≤ 101 by omega)
  go_enter Try.func89, Try.ntmps89
  go_wp2_with fail
  refine (implareElements_c p _ 2 2 [a, b] _ (by omega) (by omega) (ints2 w 3 a b) (by omega)).mono ?_
  rintro e w1 ⟨rfl, rfl⟩
  rw [HE.out]
  go_wp2_with fail
  go_ret
  exact ⟨rfl, gbA (gbR _ _) _⟩
def fsum (p : Int) (l : List Int) : Int := l.sum % p
theorem fsum_step {p : Int} {l : List Int} {k : Nat} (hk : k < l.length) : (fsum p (l.take k) + l.getD k 0) % p = fsum p (l.take (k + 1)) := by
  unfold fsum
  rw [take_snoc' l k hk, List.sum_append, Int.emod_add_emod]
  simp
theorem fsum_rng {p : Int} (hp : 2 ≤ p) (l : List Int) : 0 ≤ fsum p l ∧ fsum p l < p := ⟨Int.emod_nonneg _ (by omega), Int.emod_lt_of_pos _ (by omega)⟩
theorem fsum_elem {p : Int} (hf : fieldB p = true) (l : List Int) : elemB p (fsum p l) = true := by
  obtain ⟨h1, h2⟩ := field_range hf
  obtain ⟨h3, h4⟩ := fsum_rng h1 l
  exact elemB_mk hf h3 h4
theorem femod_elem {p : Int} (hf : fieldB p = true) (x : Int) : elemB p (x % p) = true := by
  obtain ⟨h1, h2⟩ := field_range hf
  exact elemB_mk hf (Int.emod_nonneg _ (by omega)) (Int.emod_lt_of_pos _ (by omega))
set_option maxHeartbeats 400000 in
theorem implFSum_y (p : Int) (A : Option Addr) (n c : Nat) (zs : List Int) (w : World) (h : elemsB p zs = true) (hx : Ints w A n zs) (hn : n ≤ 4611686018427387903) :
    Calls Try.prog 162 #[.int .i64 p, .slice A n c] w fun e w' => e = .returned (.int .i64 (fsum p zs)) ∧ w = w' := by
  obtain ⟨hf, p2, p101, hz⟩ := elemsB_is h
  have HE := Lib.hid h
  have LX := Lib.hid hx.len
  have HX := Lib.hid hx
  clear h hf
  go_enter Try.func162, Try.ntmps162
  go_wp2_with fail
  refine (implareElements_c p A n c zs _ (by omega) (by omega) HX.out hn).mono ?_
  rintro e w1 ⟨rfl, rfl⟩
  rw [HE.out]
  go_wp2_with fail
  go_loop [5, 14] (fun z i => ∃ k : Nat, k ≤ n ∧ i = .int .i64 k ∧ z = .int .i64 (fsum p (zs.take k))) (fun _ i => n - (intOf i).toNat)
  case atStart => exact ⟨0, Nat.zero_le _, rfl, by simp [fsum]⟩
  case round =>
    obtain ⟨k, hk, rfl, rfl⟩ := hrel
    obtain ⟨s0, s1⟩ := fsum_rng p2 (zs.take k)
    by_cases hlt : k < n
    · obtain ⟨b, o, rfl, hb, hc⟩ := HX.out.at_ (by omega)
      have c0 := hc k hlt
      have i1 : (k : Int) < (n : Int) := by omega
      have HS := Lib.hid (fsum_step (p := p) (l := zs) (k := k) (by have := LX.out; omega))
      have hzk := hz (zs.getD k 0) (by rw [getI zs k (by have := LX.out; omega)]; exact List.getElem_mem ..)
      obtain ⟨z0, z1⟩ := hzk
      generalize fsum p (zs.take k) = s at *
      generalize zs.getD k 0 = y at *
      clear hc hz
      go_wp2_with fail
      go_round
      case rel => exact ⟨k + 1, by omega, by go_num, by rw [← HS.out]⟩
      case measure => simp [intOf]; omega
    · have hkn : k = n := by omega
      subst hkn
      have HT : Hid (fsum p (zs.take k) = fsum p zs) := by unfold Hid; rw [List.take_of_length_le (by have := LX.out; omega)]
      generalize fsum p (zs.take k) = s at *
      go_wp2_with fail
      go_ret
      exact ⟨retI HT.out, rfl⟩
end Go.Proofs.Ytapljpcpmdlppaa
/-
  Shares of an element: 'append(list, FSub(p, x, FSum(p, list))), next' and who calls it.
-/
namespace Go.Proofs.Ytapljpcpmdlppaa
open Go.RowKit
set_option linter.unusedVariables false
set_option linter.unusedSimpArgs false
def lit1X (H : Nat) (e : TypeId) (cs : Array Value) (v : Value) (w : World) : Prop := ∃ g, v = .slice (some ⟨g, 0, none⟩) 1 1 ∧ H ≤ g ∧ Blk w g e cs
theorem chgDr {S : Nat → Prop} {w w' : World} (h : Chg S w.drew w') : Chg S w w' := ⟨h.os, h.tape, h.output, h.size, h.block⟩
def shareL (p x : Int) (L : List Int) : List Int := L ++ [(x - fsum p L) % p]
theorem shareL_len (p x : Int) (L : List Int) : (shareL p x L).length = L.length + 1 := by simp [shareL]
theorem shareL_elems {p x : Int} {L : List Int} (h : elemsB p L = true) : elemsB p (shareL p x L) = true := by
  obtain ⟨hf, p2, p101, hz⟩ := elemsB_is h
  refine elemsB_mk hf fun a ha => ?_
  rcases List.mem_append.1 ha with ha | ha
  · exact hz a ha
  · have : a = (x - fsum p L) % p := by simpa using ha
    subst this
    exact ⟨Int.emod_nonneg _ (by omega), Int.emod_lt_of_pos _ (by omega)⟩
theorem shareL_sum {p x : Int} {L : List Int} (h0 : 0 ≤ x) (h1 : x < p) : fsum p (shareL p x L) = x := by
  unfold fsum shareL
  rw [List.sum_append]
  simp only [List.sum_cons, List.sum_nil, Int.add_zero]
  rw [Int.add_emod_emod, show fsum p L = L.sum % p from rfl, ← Int.add_sub_assoc, Int.sub_emod_emod, show L.sum + x - L.sum = x by omega]
  exact Int.emod_eq_of_lt h0 h1
theorem elems_tape {P s a k : Nat} (hf : fieldB (P : Int) = true) (h0 : 0 < P) : elemsB (P : Int) (tapeL s a P k) = true := elemsB_mk hf fun z hz => tapeL_rng h0 z hz
theorem specl06Tape_yes (s a : Nat) (w : World) (hs : s < 4294967296) (ha : a ≤ 900000) :
    Calls Try.prog 117 #[.agg #[.int .i64 s, .int .i64 a]] w fun e w' => e = .returned (.bool true) ∧ w.grownBy w' none := by
  have d1 := Lib.hid (tape_yes hs (show a ≤ 1000000 by omega))
  have d2 : decide ((a : Int) ≤ 900000) = true := by simp; omega
  go_enter Try.func117, Try.ntmps117
  go_wp2_with fail
  refine (specTapeOk_c s a _).mono ?_
  rintro e w1 ⟨rfl, g1⟩
  rw [d1.out]
  have B1 := Blk.grow (Blk.new w 75 #[.int .i64 s, .int .i64 a]) g1
  have c0 := B1.cell 0
  have c1 := B1.cell 1
  simp at c0 c1
  have G1 := Lib.hid (gbT (gbA (gbR w none) _) g1)
  clear g1 B1
  go_wp2_with fail
  go_ret
  exact ⟨rfl, G1.out⟩
end Go.Proofs.Ytapljpcpmdlppaa
/-
  The laws' helpers on Keys, by what it reads as (printed by wip/gen_sk.py).
-/
namespace Go.Proofs.Ytapljpcpmdlppaa
open Go.RowKit
set_option linter.unusedVariables false
set_option linter.unusedSimpArgs false
structure KM where
  p : Int
  al : List Int
abbrev ckeys (m : KM) : List CS := [ci m.p, cints m.al]
def KM.sz (m : KM) : Nat := m.al.length
def KM.wf (m : KM) : Prop := i64w m.p ∧ (∀ z ∈ m.al, i64w z)
theorem stKeys : St Try.prog 65 2 := ⟨⟨_, Try.underlying65, rfl⟩, by kernel_rfl⟩
theorem ckeys_open {w : World} {m : KM} {v : Value} (h : AggR w (ckeys m) v) : ∃ u1, v = .agg #[(.int .i64 m.p), u1] ∧ (cints m.al).rd w u1 := by
  obtain ⟨vs, rfl, h⟩ := h
  obtain ⟨u0, vs0, rfl, h0, h⟩ := RdAll.head h
  obtain ⟨u1, vs1, rfl, h1, h⟩ := RdAll.head h
  obtain rfl := RdAll.none h
  obtain rfl := ci_rd h0
  exact ⟨u1, rfl, h1⟩
theorem ckeys_mk {w : World} {m : KM} {u1 : Value} (h1 : (cints m.al).rd w u1) : AggR w (ckeys m) (.agg #[(.int .i64 m.p), u1]) := ⟨_, rfl, (RdAll.cons (ci_mk _ _) (RdAll.cons h1 (RdAll.nil _)))⟩
theorem ckeys_oform {w : World} {m : KM} {F : List Nat} {v : Value} (h : AggO w (ckeys m) F v) : ∃ (A1 : Option Addr) (n1 s1 : Nat), v = .agg #[(.int .i64 m.p), (.slice A1 n1 s1)] := by
  obtain ⟨vs, Fs, rfl, h, rfl⟩ := h
  obtain ⟨u0, vs0, F0, Fs0, rfl, rfl, h0, h, d0⟩ := OwnAll.head h
  obtain ⟨u1, vs1, F1, Fs1, rfl, rfl, h1, h, d1⟩ := OwnAll.head h
  obtain ⟨rfl, rfl⟩ := OwnAll.none h
  obtain ⟨rfl, rfl, _⟩ := h0
  obtain ⟨A1, n1, s1, rfl⟩ := row_form h1
  exact ⟨A1, n1, s1, rfl⟩
theorem ckeys_omk {w : World} {m : KM} {u1 : Value} {F1 : List Nat} (h1 : (cints m.al).own w F1 u1)  : AggO w (ckeys m) [[], F1].flatten (.agg #[(.int .i64 m.p), u1]) := ⟨_, _, rfl, (OwnAll.cons (ci_own _ _) (OwnAll.cons h1 (OwnAll.nil _) (fun g hg => by simp)) (by simp)), rfl⟩
end Go.Proofs.Ytapljpcpmdlppaa
/-
  The laws' helpers on Auth, by what it reads as (printed by wip/gen_sk.py).
-/
namespace Go.Proofs.Ytapljpcpmdlppaa
open Go.RowKit
set_option linter.unusedVariables false
set_option linter.unusedSimpArgs false
structure AuM where
  sh : List Int
  mc : List Int
abbrev cauth (m : AuM) : List CS := [cints m.sh, cints m.mc]
def AuM.sz (m : AuM) : Nat := m.sh.length + m.mc.length
def AuM.wf (m : AuM) : Prop := (∀ z ∈ m.sh, i64w z) ∧ (∀ z ∈ m.mc, i64w z)
theorem stAuth : St Try.prog 82 2 := ⟨⟨_, Try.underlying82, rfl⟩, by kernel_rfl⟩
theorem cauth_open {w : World} {m : AuM} {v : Value} (h : AggR w (cauth m) v) : ∃ u0 u1, v = .agg #[u0, u1] ∧ (cints m.sh).rd w u0 ∧ (cints m.mc).rd w u1 := by
  obtain ⟨vs, rfl, h⟩ := h
  obtain ⟨u0, vs0, rfl, h0, h⟩ := RdAll.head h
  obtain ⟨u1, vs1, rfl, h1, h⟩ := RdAll.head h
  obtain rfl := RdAll.none h
  exact ⟨u0, u1, rfl, h0, h1⟩
theorem cauth_mk {w : World} {m : AuM} {u0 u1 : Value} (h0 : (cints m.sh).rd w u0) (h1 : (cints m.mc).rd w u1) : AggR w (cauth m) (.agg #[u0, u1]) := ⟨_, rfl, (RdAll.cons h0 (RdAll.cons h1 (RdAll.nil _)))⟩
theorem cauth_oform {w : World} {m : AuM} {F : List Nat} {v : Value} (h : AggO w (cauth m) F v) : ∃ (A0 : Option Addr) (n0 s0 : Nat) (A1 : Option Addr) (n1 s1 : Nat), v = .agg #[(.slice A0 n0 s0), (.slice A1 n1 s1)] := by
  obtain ⟨vs, Fs, rfl, h, rfl⟩ := h
  obtain ⟨u0, vs0, F0, Fs0, rfl, rfl, h0, h, d0⟩ := OwnAll.head h
  obtain ⟨u1, vs1, F1, Fs1, rfl, rfl, h1, h, d1⟩ := OwnAll.head h
  obtain ⟨rfl, rfl⟩ := OwnAll.none h
  obtain ⟨A0, n0, s0, rfl⟩ := row_form h0
  obtain ⟨A1, n1, s1, rfl⟩ := row_form h1
  exact ⟨A0, n0, s0, A1, n1, s1, rfl⟩
theorem cauth_oopen {w : World} {m : AuM} {F : List Nat} {v : Value} (h : AggO w (cauth m) F v) : ∃ u0 u1 F0 F1, v = .agg #[u0, u1] ∧ F = [F0, F1].flatten ∧ (cints m.sh).own w F0 u0 ∧ (cints m.mc).own w F1 u1 ∧ (∀ g ∈ F0, g ∉ F1) := by
  obtain ⟨vs, Fs, rfl, h, rfl⟩ := h
  obtain ⟨u0, vs0, F0, Fs0, rfl, rfl, h0, h, d0⟩ := OwnAll.head h
  obtain ⟨u1, vs1, F1, Fs1, rfl, rfl, h1, h, d1⟩ := OwnAll.head h
  obtain ⟨rfl, rfl⟩ := OwnAll.none h
  exact ⟨u0, u1, F0, F1, rfl, rfl, h0, h1, fun g hg hg' => d0 g hg (by simp [hg'])⟩
theorem cauth_omk {w : World} {m : AuM} {u0 u1 : Value} {F0 F1 : List Nat} (h0 : (cints m.sh).own w F0 u0) (h1 : (cints m.mc).own w F1 u1) (d01 : ∀ g ∈ F0, g ∉ F1) : AggO w (cauth m) [F0, F1].flatten (.agg #[u0, u1]) := ⟨_, _, rfl, (OwnAll.cons h0 (OwnAll.cons h1 (OwnAll.nil _) (fun g hg => by simp)) (fun g hg => by simp [d01 g hg])), rfl⟩
end Go.Proofs.Ytapljpcpmdlppaa
