/-
  The draws: a cursor over bytes. What is drawn lies in its range; nothing else is said of it.
-/
import Derived.Test.YthdfkiaoahpjpaaMgFnConstantCircuits4
namespace Go.Proofs.Ythdfkiaoahpjpaa
open Go.RowKit
set_option linter.unusedVariables false
set_option linter.unusedSimpArgs false
theorem Rd.grown' {w w' : World} {sz n : Nat} {A : Option Addr} {xs : List Value} {r : Option Nat} (h : Rd w sz A n xs) (hg : w.grownBy w' r) (hr : 0 < n → Off A r) : Rd w' sz A n xs := by
  rcases Nat.eq_zero_or_pos n with h0 | h0
  · exact ⟨h.1, fun hn => by omega⟩
  · exact h.grown hg (hr h0)
structure Cur (w : World) (g : Nat) (A : Option Addr) (n c : Nat) (bs : List Int) : Prop where
  blk : ∃ (i : Nat) (h : Int), i ≤ n ∧ Blk w g 115 #[.slice A n c, .int .i64 i, .int .i64 h]
  bytes : Rd w 1 A n (bs.map (Value.int .u8))
  rng : ∀ b ∈ bs, 0 ≤ b ∧ b ≤ 255
  off : 0 < n → Off A (some g)
  small : n ≤ 1048576
theorem Cur.grow {w w' : World} {g : Nat} {A : Option Addr} {n c : Nat} {bs : List Int} (h : Cur w g A n c bs) (hg : w.grownBy w' none) : Cur w' g A n c bs := by
  obtain ⟨⟨i, k, hi, hb⟩, h2, h3, h4, h5⟩ := h
  exact ⟨⟨i, k, hi, hb.grow hg⟩, h2.grow hg, h3, h4, h5⟩
theorem Cur.lt {w : World} {g : Nat} {A : Option Addr} {n c : Nat} {bs : List Int} (h : Cur w g A n c bs) : g < w.heap.size := by
  obtain ⟨⟨i, k, hi, hb⟩, _⟩ := h
  exact hb.lt
theorem and255 (a : Int) : 0 ≤ bits .and .i64 a 255 ∧ bits .and .i64 a 255 ≤ 255 := by
  have h1 : (BitVec.ofInt 64 a &&& BitVec.ofInt 64 255).toNat ≤ 255 := by
    rw [BitVec.toNat_and, show (BitVec.ofInt 64 255).toNat = 255 from rfl]
    exact Nat.and_le_right
  show 0 ≤ IntKind.i64.wrap ((BitVec.ofInt 64 a &&& BitVec.ofInt 64 255).toNat : Int) ∧ IntKind.i64.wrap ((BitVec.ofInt 64 a &&& BitVec.ofInt 64 255).toNat : Int) ≤ 255
  rw [IntKind.wrap_i64]
  omega
theorem byte_at {w : World} {A : Option Addr} {n k : Nat} {bs : List Int} (h : Rd w 1 A n (bs.map (Value.int .u8))) (hk : k < n) :
    ∃ b o, A = some ⟨b, o, none⟩ ∧ b < w.heap.size ∧ w.cell? ⟨b, o + k, none⟩ = some (.int .u8 (bs.getD k 0)) ∧ k < bs.length := by
  obtain ⟨b, o, e, hb, hc⟩ := h.2 (by omega)
  have hl : bs.length = n := by simpa using h.1
  refine ⟨b, o, e, hb, ?_, by omega⟩
  rw [hc k (by omega)]
  simp [List.getElem?_map, List.getD_eq_getElem?_getD, List.getElem?_eq_getElem (show k < bs.length by omega)]
theorem Cur.next {w w' : World} {g : Nat} {A : Option Addr} {n c : Nat} {bs : List Int} {i : Nat} {h : Int} (hi : i ≤ n) (hb : Blk w' g 115 #[.slice A n c, .int .i64 i, .int .i64 h])
    (hby : Rd w 1 A n (bs.map (Value.int .u8))) (hr : ∀ b ∈ bs, 0 ≤ b ∧ b ≤ 255) (ho : 0 < n → Off A (some g)) (hs : n ≤ 1048576) (hg : w.grownBy w' (some g)) : Cur w' g A n c bs :=
  ⟨⟨i, h, hi, hb⟩, hby.grown' hg ho, hr, ho, hs⟩
def ByteOut (w : World) (g : Nat) (A : Option Addr) (n c : Nat) (bs : List Int) (e : Ending) (w' : World) : Prop :=
  ∃ x : Int, e = .returned (.int .i64 x) ∧ 0 ≤ x ∧ x ≤ 255 ∧ Cur w' g A n c bs ∧ w.grownBy w' (some g)
set_option maxHeartbeats 1000000 in
theorem l01Byte_c (w : World) (g : Nat) (A : Option Addr) (n c : Nat) (bs : List Int) (hc : Cur w g A n c bs) :
    Calls Try.prog 89 #[.pointer (some ⟨g, 0, none⟩)] w (ByteOut w g A n c bs) := by
  obtain ⟨⟨i, h, hi, hb⟩, hby, hr, ho, hs⟩ := hc
  have c0 := hb.cell 0
  have c1 := hb.cell 1
  have c2 := hb.cell 2
  have f2 := hb.frozen 2
  have f1 := hb.frozen 1
  simp at c0 c1 c2
  by_cases hlt : i < n
  · obtain ⟨b, o, rfl, hbl, cb, hkl⟩ := byte_at hby hlt
    have hne : b ≠ g := fun e => ho (by omega) _ rfl (by simp [e])
    have hne' : g ≠ b := fun e => hne e.symm
    have il : (i : Int) < (n : Int) := by omega
    have hbr := hr _ (List.getElem_mem hkl)
    rw [← getI bs i hkl] at hbr
    generalize bs.getD i 0 = y at *
    obtain ⟨hy0, hy1⟩ := hbr
    have HB := Lib.hid hb
    have HBY := Lib.hid hby
    have HR := Lib.hid hr
    have HO := Lib.hid ho
    clear hb hby hr ho
    go_enter Try.func89, Try.ntmps89
    go_wp2_with fail
    go_quiet (fail)
    go_wp2_with fail
    go_quiet (fail)
    go_wp2_with fail
    go_quiet (fail)
    go_wp2_with fail
    go_ret
    generalize hA : (bits .and .i64 (bits .xor .i64 (wrap64 (wrap64 (h * 6364136223846793005) + 1442695040888963407) / 8589934592) (wrap64 (wrap64 (h * 6364136223846793005) + 1442695040888963407) / 35184372088832)) 255) = z
    clear hA
    refine ⟨_, rfl, (and255 _).1, (and255 _).2, Cur.next (by omega : i + 1 ≤ n) (((HB.out.set_ 2 _).set_ 1 _)) HBY.out HR.out HO.out hs ?_, ?_⟩
    all_goals (repeat (first | exact gbR _ _ | refine gbDN ?_ _ | refine gbO ?_ _))
  · have hin : i = n := by omega
    subst hin
    have il : decide ((i : Int) < (i : Int)) = false := by simp
    have HB := Lib.hid hb
    have HBY := Lib.hid hby
    have HR := Lib.hid hr
    have HO := Lib.hid ho
    clear hb hby hr ho hlt
    go_enter Try.func89, Try.ntmps89
    go_wp2_with fail
    go_quiet (fail)
    go_wp2_with fail
    go_quiet (fail)
    go_wp2_with fail
    go_ret
    refine ⟨_, rfl, (and255 _).1, (and255 _).2, Cur.next (Nat.le_refl _) (HB.out.set_ 2 _) HBY.out HR.out HO.out hs ?_, ?_⟩
    all_goals (repeat (first | exact gbR _ _ | refine gbDN ?_ _ | refine gbO ?_ _))
def BelowOut (w : World) (m : Int) (g : Nat) (A : Option Addr) (n c : Nat) (bs : List Int) (e : Ending) (w' : World) : Prop :=
  ∃ x : Int, e = .returned (.int .i64 x) ∧ 0 ≤ x ∧ (1 ≤ m → x < m) ∧ Cur w' g A n c bs ∧ w.grownBy w' (some g)
set_option maxHeartbeats 1000000 in
theorem l01Below_c (w : World) (m : Int) (hm : m ≤ 1099511627776) (g : Nat) (A : Option Addr) (n c : Nat) (bs : List Int) (hc : Cur w g A n c bs) :
    Calls Try.prog 47 #[.pointer (some ⟨g, 0, none⟩), .int .i64 m] w (BelowOut w m g A n c bs) := by
  have HC := Lib.hid hc
  clear hc
  by_cases h0 : m ≤ 0
  · go_enter Try.func47, Try.ntmps47
    go_wp2_with fail
    go_ret
    exact ⟨0, rfl, by omega, fun h => by omega, HC.out, gbR _ _⟩
  · by_cases h1 : m ≤ 256
    · go_enter Try.func47, Try.ntmps47
      go_wp2_with fail
      refine (l01Byte_c _ g A n c bs HC.out).mono ?_
      rintro e w1 ⟨x, rfl, hx0, hx1, hc1, hg1⟩
      have H1 := Lib.hid hc1
      clear hc1
      go_wp2_with fail
      go_ret
      exact ⟨_, rfl, Int.emod_nonneg _ (by omega), fun h => Int.emod_lt_of_pos _ (by omega), H1.out, hg1⟩
    · go_enter Try.func47, Try.ntmps47
      go_wp2_with fail
      refine (l01Byte_c _ g A n c bs HC.out).mono ?_
      rintro e w1 ⟨x, rfl, hx0, hx1, hc1, hg1⟩
      have H1 := Lib.hid hc1
      clear hc1
      go_wp2_with fail
      refine (l01Byte_c _ g A n c bs H1.out).mono ?_
      rintro e w2 ⟨y, rfl, hy0, hy1, hc2, hg2⟩
      have H2 := Lib.hid hc2
      clear hc2
      go_wp2_with fail
      refine (l01Byte_c _ g A n c bs H2.out).mono ?_
      rintro e w3 ⟨z, rfl, hz0, hz1, hc3, hg3⟩
      have H3 := Lib.hid hc3
      clear hc3
      go_wp2_with fail
      refine (l01Byte_c _ g A n c bs H3.out).mono ?_
      rintro e w4 ⟨u, rfl, hu0, hu1, hc4, hg4⟩
      have H4 := Lib.hid hc4
      clear hc4
      go_wp2_with fail
      go_ret
      exact ⟨_, rfl, Int.emod_nonneg _ (by omega), fun h => Int.emod_lt_of_pos _ (by omega), H4.out, gbT (gbT (gbT hg1 hg2) hg3) hg4⟩
structure BytesIn (w : World) (A : Option Addr) (n : Nat) (bs : List Int) : Prop where
  bytes : Rd w 1 A n (bs.map (Value.int .u8))
  rng : ∀ b ∈ bs, 0 ≤ b ∧ b ≤ 255
  small : n ≤ 1048576
theorem BytesIn.grow {w w' : World} {A : Option Addr} {n : Nat} {bs : List Int} (h : BytesIn w A n bs) (hg : w.grownBy w' none) : BytesIn w' A n bs := ⟨h.bytes.grow hg, h.rng, h.small⟩
theorem BytesIn.off {w : World} {A : Option Addr} {n : Nat} {bs : List Int} (h : BytesIn w A n bs) {r : Option Nat} (hg : ∀ g, r = some g → w.heap.size ≤ g) : 0 < n → Off A r := fun hn a ha e => by
  obtain ⟨b, o, rfl, hb, _⟩ := h.bytes.2 hn
  injection ha with ha
  subst ha
  have := hg b e.symm
  omega
set_option maxHeartbeats 400000 in
theorem l01New_c (w : World) (A : Option Addr) (n c : Nat) (bs : List Int) (h : BytesIn w A n bs) :
    Calls Try.prog 46 #[.slice A n c] w fun e w' => e = .returned (.pointer (some ⟨w.heap.size, 0, none⟩)) ∧ Cur w' w.heap.size A n c bs ∧ w.grownBy w' none ∧ w.heap.size + 1 = w'.heap.size := by
  have hn := h.small
  have H := Lib.hid h
  clear h
  go_enter Try.func46, Try.ntmps46
  go_wp2_with fail
  go_loop [3, 4] (fun s i => ∃ (k : Nat) (h : Int), k ≤ n ∧ i = .int .i64 k ∧ s = .int .i64 h) (fun _ i => n - (intOf i).toNat)
  case atStart => exact ⟨0, _, Nat.zero_le _, rfl, rfl⟩
  case round =>
    obtain ⟨k, h, hk, rfl, rfl⟩ := hrel
    by_cases hlt : k < n ∧ k < 4000
    · obtain ⟨h1, h2⟩ := hlt
      obtain ⟨b, o, rfl, hb, c1, hkl⟩ := byte_at H.out.bytes h1
      have i1 : (k : Int) < (n : Int) := by omega
      have d2 : decide ((k : Int) < 4000) = true := by simp; omega
      generalize bs.getD k 0 = y at *
      go_wp2_with fail
      go_round
      case rel => exact ⟨k + 1, _, by omega, by go_num, rfl⟩
      case measure => simp [intOf]; omega
    · by_cases h1 : k < n
      · have d1 : decide ((k : Int) < (n : Int)) = true := by simp; omega
        have d2 : decide ((k : Int) < 4000) = false := by simp; omega
        clear hlt
        go_wp2_with fail
        go_ret
        refine ⟨rfl, ⟨⟨0, _, Nat.zero_le _, Blk.new w _ _⟩, (H.out.grow (gbA (gbR _ _) _)).bytes, H.out.rng, H.out.off (fun g e => by injection e with e; omega), hn⟩, gbA (gbR _ _) _, by simp⟩
      · have d1 : decide ((k : Int) < (n : Int)) = false := by simp; omega
        clear hlt
        go_wp2_with fail
        go_ret
        refine ⟨rfl, ⟨⟨0, _, Nat.zero_le _, Blk.new w _ _⟩, (H.out.grow (gbA (gbR _ _) _)).bytes, H.out.rng, H.out.off (fun g e => by injection e with e; omega), hn⟩, gbA (gbR _ _) _, by simp⟩
def Places (qs : List Int) : Prop := qs.length = 12 ∧ ∀ q ∈ qs, 0 ≤ q ∧ q < 10000
set_option maxHeartbeats 800000 in
theorem DrawPlaces_c (w : World) (A : Option Addr) (n c : Nat) (bs : List Int) (h : BytesIn w A n bs) :
    Calls Try.prog 10 #[.slice A n c] w fun e w' => ∃ v qs, e = .returned v ∧ w'.ownsRow w.heap.size 3 1 v 12 (qs.map (Value.int .i64)) ∧ Places qs ∧ w.grownBy w' none := by
  have H := Lib.hid h
  clear h
  go_enter Try.func10, Try.ntmps10
  go_wp2_with fail
  refine (l01New_c _ A n c bs H.out).mono ?_
  rintro e w1 ⟨rfl, hc1, hg1, hz1⟩
  have HC := Lib.hid (hc1.grow (gbA (gbR _ none) (.cells #[] 3)))
  have HG := Lib.hid (gbA hg1 (.cells #[] 3))
  have HO := Lib.hid (World.ownsRow_made (e := 3) (size := 1) (base := w.heap.size + 1) w1 #[] 0 (by omega) (by simp) rfl)
  have HZ := Lib.hid hz1
  clear hc1 hg1 hz1
  go_wp2_with fail
  go_loopw [4, 5] (fun s i wr => ∃ (k : Nat) (qs : List Int), k ≤ 12 ∧ i = .int .i64 k ∧ Hid (wr.ownsRow (w.heap.size + 1) 3 1 s k (qs.map (Value.int .i64))) ∧ Hid (qs.length = k ∧ ∀ q ∈ qs, 0 ≤ q ∧ q < 10000) ∧ Hid (Cur wr w.heap.size A n c bs) ∧ Hid (w.grownBy wr none)) (fun _ i _ => 12 - (intOf i).toNat)
  case atStart => exact ⟨0, [], by omega, rfl, HO.out, ⟨rfl, by simp⟩, HC.out, HG.out⟩
  case round =>
    obtain ⟨k, qs, hk, rfl, hown, hqs, hcur, hg⟩ := hrel
    by_cases hlt : k < 12
    · go_wp2_with fail
      refine (l01Below_c _ 10000 (by omega) _ A n c bs hcur.out).mono ?_
      rintro e w2 ⟨x, rfl, hx0, hx1, hc2, hg2⟩
      have hx2 := hx1 (by omega)
      have hown2 := own_grown hown.out hg2 (by
        cases hb : Value.ownBlock _ with
        | none => exact .inl rfl
        | some b => refine .inr fun e => ?_
                    have := (hown.out.lt b hb).1
                    injection e with e
                    omega)
      have HC2 := Lib.hid hc2
      have HG2 := Lib.hid (gbN hg.out hg2 (fun b e => by injection e with e; omega))
      clear hc2 hg2 hx1 hown hcur hg
      go_wp2_with (at_builtin; refine wp_append1 w2 el_int rfl (.tmp 13) (.tmp 16) rfl _ rfl (by simp [Value.oneCell']) (w.heap.size + 1) _ k _ hown2 rfl rfl (by unfold maxLen; omega) (by omega) HC2.out.lt ?_; intro v' w3 hown3 hgrow)
      have h1 := Lib.hid (show w3.ownsRow (w.heap.size + 1) 3 1 v' (k + 1) ((qs ++ [x]).map (Value.int .i64)) by simpa using hown3)
      have h2 := Lib.hid (gbN HG2.out hgrow fun g e => by have := (hown2.lt g e).1; omega)
      have h3 := Lib.hid (show Cur w3 w.heap.size A n c bs by
        obtain ⟨⟨i, hh, hi, hb⟩, k2, k3, k4, k5⟩ := HC2.out
        have hne : some w.heap.size ≠ Value.ownBlock _ := fun e => by have := (hown2.lt _ e.symm).1; omega
        exact ⟨⟨i, hh, hi, hb.grown hgrow hne⟩, k2.grown' hgrow (H.out.off fun g e => by have := (hown2.lt g e).1; omega), k3, k4, k5⟩)
      clear hown3 hgrow hown2
      go_wp2_with fail
      go_roundw
      case rel => exact ⟨k + 1, qs ++ [x], by omega, by go_num, h1.out, ⟨by simp [hqs.out.1], fun q hq => by
        rcases List.mem_append.1 hq with hq | hq
        · exact hqs.out.2 q hq
        · simp at hq; subst hq; exact ⟨hx0, hx2⟩⟩, h3.out, h2.out⟩
      case measure => simp [intOf]; omega
    · have hk12 : k = 12 := by omega
      subst hk12
      go_wp2_with fail
      go_ret
      exact ⟨_, qs, rfl, own_base hown.out (by omega), hqs.out, hg.out⟩
end Go.Proofs.Ythdfkiaoahpjpaa
