/-
  Keys and authenticated values: their form, by what they read xs.
-/
import Derived.Test.YthaadgdeadbhkaaMgFnExactEngineNew15
import Derived.Test.YthaadgdeadbhkaaMgFnExactEngineNew14
import Derived.Test.YthaadgdeadbhkaaMgFnExactEngineNew1
namespace Go.Proofs.Ythaadgdeadbhkaa
open Go.RowKit
set_option linter.unusedVariables false
set_option linter.unusedSimpArgs false
def kwf (k : KM) : Prop := i64w k.p ∧ k.al.length ≤ 1048576
def awf (a : AuM) : Prop := a.sh.length ≤ 1048576 ∧ a.mc.length ≤ 1048576
def keysB (k : KM) : Bool := elemsB k.p k.al && inQ k.al.length 1 5
def formA (k : KM) (a : AuM) : Bool := ((a.sh.length : Int) == (k.al.length : Int)) && ((a.mc.length : Int) == (k.al.length : Int)) && elemsB k.p a.sh && elemsB k.p a.mc
def formB (k : KM) (a : AuM) : Bool := keysB k && formA k a
theorem ckeys_sl {w : World} {k : KM} {v : Value} (h : AggR w (ckeys k) v) : ∃ A c, v = .agg #[.int .i64 k.p, .slice A k.al.length c] ∧ k.al.length ≤ c ∧ c ≤ maxLen ∧ Ints w A k.al.length k.al := by
  obtain ⟨u1, rfl, h1⟩ := ckeys_open h
  obtain ⟨A, c, rfl, h2, h3, h4⟩ := cints_rd h1
  exact ⟨A, c, rfl, h2, h3, h4⟩
theorem cauth_sl {w : World} {a : AuM} {v : Value} (h : AggR w (cauth a) v) : ∃ A c B d, v = .agg #[.slice A a.sh.length c, .slice B a.mc.length d] ∧ a.sh.length ≤ c ∧ c ≤ maxLen ∧ a.mc.length ≤ d ∧ d ≤ maxLen ∧ Ints w A a.sh.length a.sh ∧ Ints w B a.mc.length a.mc := by
  obtain ⟨u0, u1, rfl, h0, h1⟩ := cauth_open h
  obtain ⟨A, c, rfl, h2, h3, h4⟩ := cints_rd h0
  obtain ⟨B, d, rfl, k2, k3, k4⟩ := cints_rd h1
  exact ⟨A, c, B, d, rfl, h2, h3, k2, k3, h4, k4⟩
set_option maxHeartbeats 400000 in
theorem specKeysOk_c (k : KM) (v : Value) (w : World) (h : AggR w (ckeys k) v) (wp : kwf k) :
    Calls Try.prog 58 #[v] w fun e w' => e = .returned (.bool (keysB k)) ∧ w.grownBy w' none := by
  obtain ⟨A, c, rfl, hc, hm, hI⟩ := ckeys_sl h
  obtain ⟨⟨wp1, wp2⟩, wl⟩ := wp
  unfold maxLen at hm
  have HI := Lib.hid (hI.grow (gbA (gbR w none) (.cells #[.int .i64 k.p, .slice A k.al.length c] 26)))
  have HK : Hid (keysB k = (elemsB k.p k.al && inQ k.al.length 1 5)) := rfl
  generalize k.al = al at *
  generalize k.p = p at *
  generalize hn : al.length = n at *
  clear h hI hn
  cases h1 : elemsB p al <;> cases h2 : inQ (n : Int) 1 5
  all_goals
    rw [h1, h2] at HK
    go_enter Try.func58, Try.ntmps58
    go_wp2_with (first | (go_at_call 92; refine (specInq_c n 1 5 _).mono ?_; rintro e w1 ⟨rfl, rfl⟩; rw [h2]) | (go_at_call 79; refine (specl03All_c p A n c al _ (by omega) HI.out (by omega)).mono ?_; rintro e w1 ⟨rfl, rfl⟩; rw [h1]))
    go_ret
    exact ⟨retB (by rw [HK.out]; rfl), gbA (gbR _ _) _⟩
set_option maxHeartbeats 400000 in
theorem implKeysOk_c (k : KM) (v : Value) (w : World) (h : AggR w (ckeys k) v) (wp : kwf k) :
    Calls Try.prog 47 #[v] w fun e w' => e = .returned (.bool (keysB k)) ∧ w.grownBy w' none := by
  obtain ⟨A, c, rfl, hc, hm, hI⟩ := ckeys_sl h
  obtain ⟨⟨wp1, wp2⟩, wl⟩ := wp
  unfold maxLen at hm
  have HI := Lib.hid (hI.grow (gbA (gbR w none) (.cells #[.int .i64 k.p, .slice A k.al.length c] 26)))
  have HK : Hid (keysB k = (elemsB k.p k.al && inQ k.al.length 1 5)) := rfl
  generalize k.al = al at *
  generalize k.p = p at *
  generalize hn : al.length = n at *
  clear h hI hn
  cases h1 : elemsB p al <;> cases h2 : inQ (n : Int) 1 5
  all_goals
    rw [h1, h2] at HK
    go_enter Try.func47, Try.ntmps47
    go_wp2_with (first | (go_at_call 94; refine (implInq_c n 1 5 _).mono ?_; rintro e w1 ⟨rfl, rfl⟩; rw [h2]) | (go_at_call 49; refine (implareElements_c p A n c al _ (by omega) (by omega) HI.out (by omega)).mono ?_; rintro e w1 ⟨rfl, rfl⟩; rw [h1]))
    go_ret
    exact ⟨retB (by rw [HK.out]; rfl), gbA (gbR _ _) _⟩
set_option maxHeartbeats 1000000 in
theorem specl23Form_c (k : KM) (a : AuM) (v u : Value) (w : World) (h : AggR w (ckeys k) v) (ha : AggR w (cauth a) u) (wp : kwf k) (wa : awf a) :
    Calls Try.prog 72 #[v, u] w fun e w' => e = .returned (.bool (formB k a)) ∧ w.grownBy w' none := by
  obtain ⟨A, c, rfl, hc, hm, hI⟩ := ckeys_sl h
  obtain ⟨B, d, C, f, rfl, _, _, _, _, hS, hM⟩ := cauth_sl ha
  obtain ⟨wa1, wa2⟩ := wa
  have hp := wp.1
  obtain ⟨wp1, wp2⟩ := hp
  have G0 := Lib.hid (gbA (gbA (gbR w none) (.cells #[.int .i64 k.p, .slice A k.al.length c] 26)) (.cells #[.slice B a.sh.length d, .slice C a.mc.length f] 44))
  have HK := Lib.hid (AggR.grow h G0.out)
  have HS := Lib.hid (hS.grow G0.out)
  have HM := Lib.hid (hM.grow G0.out)
  have B0 := Lib.hid ((Blk.new w 26 #[.int .i64 k.p, .slice A k.al.length c]).grow (gbA (gbR _ _) (.cells #[.slice B a.sh.length d, .slice C a.mc.length f] 44)))
  have B1 := Lib.hid (Blk.new' (w.alloc (.cells #[.int .i64 k.p, .slice A k.al.length c] 26)) 44 #[.slice B a.sh.length d, .slice C a.mc.length f] (w.heap.size + 1) (by simp))
  have WP := Lib.hid wp
  have HF : Hid (formB k a = (keysB k && (((a.sh.length : Int) == (k.al.length : Int)) && ((a.mc.length : Int) == (k.al.length : Int)) && elemsB k.p a.sh && elemsB k.p a.mc))) := rfl
  clear h ha hI hS hM wp
  go_enter Try.func72, Try.ntmps72
  go_wp2_with fail
  refine (specKeysOk_c k _ _ HK.out WP.out).mono ?_
  rintro e w1 ⟨rfl, g1⟩
  have S1 := Lib.hid (HS.out.grow g1)
  have M1 := Lib.hid (HM.out.grow g1)
  have c0 := (B0.out.grow g1).cell 0
  have c1 := (B0.out.grow g1).cell 1
  have d0 := (B1.out.grow g1).cell 0
  have d1 := (B1.out.grow g1).cell 1
  simp at c0 c1 d0 d1
  have G1 := Lib.hid (gbT G0.out g1)
  clear g1 HS HM HK B0 B1
  cases b0 : keysB k
  · rw [b0] at HF
    go_wp2_with fail
    go_ret
    exact ⟨retB (by rw [HF.out]; rfl), G1.out⟩
  cases b1 : ((a.sh.length : Int) == (k.al.length : Int))
  · rw [b0, b1] at HF
    go_wp2_with fail
    go_ret
    exact ⟨retB (by rw [HF.out]; rfl), G1.out⟩
  cases b2 : ((a.mc.length : Int) == (k.al.length : Int))
  · rw [b0, b1, b2] at HF
    go_wp2_with fail
    go_ret
    exact ⟨retB (by rw [HF.out]; rfl), G1.out⟩
  go_wp2_with fail
  refine (specl03All_c k.p B a.sh.length d a.sh _ (by omega) S1.out (by omega)).mono ?_
  rintro e w2 ⟨rfl, rfl⟩
  cases b3 : elemsB k.p a.sh
  · rw [b0, b1, b2, b3] at HF
    go_wp2_with fail
    go_ret
    exact ⟨retB (by rw [HF.out]; rfl), G1.out⟩
  go_wp2_with fail
  refine (specl03All_c k.p C a.mc.length f a.mc _ (by omega) M1.out (by omega)).mono ?_
  rintro e w2 ⟨rfl, rfl⟩
  rw [b0, b1, b2, b3] at HF
  go_wp2_with fail
  go_ret
  exact ⟨retB (by rw [HF.out]; rfl), G1.out⟩
abbrev cauths (xs : List AuM) : CS := lst 44 2 cauth xs
theorem cauths_at {w : World} {xs : List AuM} {A : Option Addr} {n c : Nat} (h : (cauths xs).rd w (.slice A n c)) {k : Nat} (hk : k < n) :
    ∃ (b o : Nat) (x : AuM) (B : Option Addr) (d : Nat) (C : Option Addr) (f : Nat), A = some ⟨b, o, none⟩ ∧ b < w.heap.size ∧ xs[k]? = some x ∧ w.cell? ⟨b, o + k * 2, none⟩ = some (.slice B x.sh.length d) ∧ w.cell? ⟨b, o + k * 2 + 1, none⟩ = some (.slice C x.mc.length f) ∧ AggR w (cauth x) (.agg #[.slice B x.sh.length d, .slice C x.mc.length f]) := by
  obtain ⟨b, o, x, rfl, hb, hx, hc⟩ := lst_at (s := 2) (fun _ => rfl) (by omega) h hk
  obtain ⟨u0, q0, r0⟩ := hc 0 (cints x.sh) rfl
  obtain ⟨u1, q1, r1⟩ := hc 1 (cints x.mc) rfl
  obtain ⟨B, d, rfl, k1, k2, k3⟩ := cints_rd r0
  obtain ⟨C, f, rfl, k4, k5, k6⟩ := cints_rd r1
  exact ⟨b, o, x, B, d, C, f, rfl, hb, hx, by simpa using q0, by rw [Nat.add_assoc]; exact q1, cauth_mk r0 r1⟩
set_option maxHeartbeats 1000000 in
theorem implisForm_c (k : KM) (xs : List AuM) (v : Value) (A : Option Addr) (n c : Nat) (w : World) (h : AggR w (ckeys k) v) (ha : (cauths xs).rd w (.slice A n c)) (wp : kwf k) (wa : ∀ a ∈ xs, awf a) (hn : n ≤ 1048576) :
    Calls Try.prog 95 #[v, .slice A n c] w fun e w' => e = .returned (.bool (xs.all (formA k) && keysB k)) ∧ w.grownBy w' none := by
  obtain ⟨E, ec, rfl, hc, hm, hI⟩ := ckeys_sl h
  have hp := wp.1
  obtain ⟨wp1, wp2⟩ := hp
  have hl := (lst_len (s := 2) (fun _ => rfl) (by omega) ha).1
  have HL := Lib.hid hl
  have G0 := Lib.hid (gbA (gbR w none) (.cells #[.int .i64 k.p, .slice E k.al.length ec] 26))
  have HK := Lib.hid (AggR.grow h G0.out)
  have HA := Lib.hid (CS.grow _ ha G0.out)
  have B0 := Lib.hid (Blk.new w 26 #[.int .i64 k.p, .slice E k.al.length ec])
  have WP := Lib.hid wp
  have WA := Lib.hid wa
  have HNO : Hid (∀ j x, xs[j]? = some x → formA k x = false → (xs.all (formA k) && keysB k) = false) := Lib.hid (fun j x hx hf => by
    rw [Bool.and_eq_false_iff]
    left
    rw [List.all_eq_false]
    exact ⟨x, List.mem_of_getElem? hx, by rw [hf]; decide⟩)
  clear h ha hI wp wa hl
  go_enter Try.func95, Try.ntmps95
  go_wp2_with fail
  go_loopw [9] (fun i wr => ∃ j : Nat, j ≤ n ∧ i = .int .i64 j ∧ Hid (∀ q x, q < j → xs[q]? = some x → formA k x = true) ∧ Hid (Blk wr w.heap.size 26 #[.int .i64 k.p, .slice E k.al.length ec]) ∧ Hid ((w.alloc (.cells #[.int .i64 k.p, .slice E k.al.length ec] 26)).grownBy wr none)) (fun i _ => n - (intOf i).toNat)
  case atStart => exact ⟨0, Nat.zero_le _, rfl, Lib.hid (fun q x hq => by omega), B0.out, Lib.hid (gbR _ _)⟩
  case round =>
    clear B0
    obtain ⟨j, hj, rfl, hOk, hB, hG⟩ := hrel
    have c0 := hB.out.cell 0
    have c1 := hB.out.cell 1
    simp at c0 c1
    have c0' := fun o => kA c0 o
    have c1' := fun o => kA c1 o
    by_cases hlt : j < n
    · obtain ⟨b, o, x, B, d, C, f, rfl, hb, hx, q0, q1, hX⟩ := cauths_at (CS.grow _ HA.out hG.out) hlt
      have i1 : (j : Int) < (n : Int) := by omega
      obtain ⟨wx1, wx2⟩ := WA.out x (List.mem_of_getElem? hx)
      obtain ⟨B', d', C', f', ev, _, _, _, _, hS, hM⟩ := cauth_sl hX
      injection ev with ev
      have ev := Array.toList_inj.2 ev
      injection ev with e1 ev
      injection ev with e2 _
      injection e1 with e1 _ e3
      injection e2 with e2 _ e4
      subst e1; subst e3; subst e2; subst e4
      have S1 := Lib.hid (hS.grow (gbA (gbR wr none) (.cells #[.slice B x.sh.length d, .slice C x.mc.length f] 44)))
      have M1 := Lib.hid (hM.grow (gbA (gbR wr none) (.cells #[.slice B x.sh.length d, .slice C x.mc.length f] 44)))
      have HX := Lib.hid hx
      have HFA : Hid (formA k x = (((x.sh.length : Int) == (k.al.length : Int)) && ((x.mc.length : Int) == (k.al.length : Int)) && elemsB k.p x.sh && elemsB k.p x.mc)) := rfl
      have NO := Lib.hid (HNO.out j x hx)
      have G1 := Lib.hid (gbT G0.out (gbA hG.out (.cells #[.slice B x.sh.length d, .slice C x.mc.length f] 44)))
      have G2 := Lib.hid (gbA hG.out (.cells #[.slice B x.sh.length d, .slice C x.mc.length f] 44))
      have B2 := Lib.hid (hB.out.grow (gbA (gbR _ none) (.cells #[.slice B x.sh.length d, .slice C x.mc.length f] 44)))
      clear hX hS hM hx HA
      cases b1 : ((x.sh.length : Int) == (k.al.length : Int))
      · rw [b1] at HFA
        have n1 : ((x.sh.length : Int) != (k.al.length : Int)) = true := by rw [bne, b1]; rfl
        clear b1
        go_wp2_with fail
        go_ret
        exact ⟨retB (by rw [NO.out (by rw [HFA.out]; rfl)]), G1.out⟩
      have n1 : ((x.sh.length : Int) != (k.al.length : Int)) = false := by rw [bne, b1]; rfl
      cases b2 : ((x.mc.length : Int) == (k.al.length : Int))
      · rw [b1, b2] at HFA
        have n2 : ((x.mc.length : Int) != (k.al.length : Int)) = true := by rw [bne, b2]; rfl
        clear b1 b2
        go_wp2_with fail
        go_ret
        exact ⟨retB (by rw [NO.out (by rw [HFA.out]; rfl)]), G1.out⟩
      have n2 : ((x.mc.length : Int) != (k.al.length : Int)) = false := by rw [bne, b2]; rfl
      rw [b1, b2] at HFA
      clear b1 b2
      go_wp2_with fail
      refine (implareElements_c k.p B x.sh.length d x.sh _ (by omega) (by omega) S1.out (by omega)).mono ?_
      rintro e w2 ⟨rfl, rfl⟩
      cases b3 : elemsB k.p x.sh
      · rw [b3] at HFA
        go_wp2_with fail
        go_ret
        exact ⟨retB (by rw [NO.out (by rw [HFA.out]; rfl)]), G1.out⟩
      go_wp2_with fail
      refine (implareElements_c k.p C x.mc.length f x.mc _ (by omega) (by omega) M1.out (by omega)).mono ?_
      rintro e w2 ⟨rfl, rfl⟩
      cases b4 : elemsB k.p x.mc
      · rw [b3, b4] at HFA
        go_wp2_with fail
        go_ret
        exact ⟨retB (by rw [NO.out (by rw [HFA.out]; rfl)]), G1.out⟩
      rw [b3, b4] at HFA
      have OK2 : Hid (∀ q y, q < j + 1 → xs[q]? = some y → formA k y = true) := Lib.hid (fun q y hq hy => by
        rcases Nat.lt_succ_iff_lt_or_eq.1 hq with hq' | rfl
        · exact hOk.out q y hq' hy
        · have := HX.out
          rw [hy] at this
          injection this with this
          rw [this, HFA.out]; rfl)
      go_wp2_with fail
      go_roundw
      case rel => exact ⟨j + 1, by omega, by go_num, OK2, B2, G2⟩
      case measure => simp [intOf]; omega
    · have hjn : j = n := by omega
      subst hjn
      have HY : Hid ((xs.all (formA k) && keysB k) = keysB k) := Lib.hid (by
        have : xs.all (formA k) = true := by
          rw [List.all_eq_true]
          intro x hx
          obtain ⟨q, hq⟩ := List.mem_iff_getElem?.1 hx
          exact hOk.out q x (by have := (List.getElem?_eq_some_iff.1 hq).1; have := HL.out; omega) hq
        rw [this]; rfl)
      have HK2 := Lib.hid (AggR.grow HK.out hG.out)
      have GZ := Lib.hid (gbT G0.out hG.out)
      clear hOk hB hG HA HK
      go_wp2_with fail
      refine (implKeysOk_c k _ _ HK2.out WP.out).mono ?_
      rintro e w2 ⟨rfl, g2⟩
      have G2 := Lib.hid (gbT GZ.out g2)
      clear g2
      go_wp2_with fail
      go_ret
      exact ⟨retB (by rw [HY.out]), G2.out⟩
end Go.Proofs.Ythaadgdeadbhkaa
