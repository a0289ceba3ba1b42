/-
  FnSharedBits: the walk.
-/
import Derived.Test.YthncoohkdmjcaaaMgFnSharedBits31
import Derived.Test.YthncoohkdmjcaaaMgFnSharedBits33
import Derived.Test.YthncoohkdmjcaaaMgFnSharedBits35
import Derived.Test.YthncoohkdmjcaaaMgFnSharedBits28
import Derived.Test.YthncoohkdmjcaaaMgFnSharedBits43
namespace Go.Proofs.Ythncoohkdmjcaaa
open Go.RowKit
set_option linter.unusedVariables false
set_option linter.unusedSimpArgs false
def shT (lo n : Nat) (L : List Int) (t : Value) (v : Value) (w : World) : Prop := ∃ A c, v = .tuple #[.slice A n c, t] ∧ w.ownsRow lo 3 1 (.slice A n c) n (L.map (Value.int .i64))
theorem shT_st {lo n : Nat} {L : List Int} {t : Value} : stable (shT lo n L t) := fun v w w' ⟨A, c, h1, h2⟩ hg => ⟨A, c, h1, own_grow h2 hg⟩
def shV (lo n : Nat) (L : List Int) (v : Value) (w : World) : Prop := ∃ A c, v = .slice A n c ∧ w.ownsRow lo 3 1 (.slice A n c) n (L.map (Value.int .i64))
theorem shV_st {lo n : Nat} {L : List Int} : stable (shV lo n L) := fun v w w' ⟨A, c, h1, h2⟩ hg => ⟨A, c, h1, own_grow h2 hg⟩
theorem own_far {w w' : World} {lo sz n g : Nat} {e T : TypeId} {v : Value} {xs : List Value} {cs : Array Value} (h : w.ownsRow lo e sz v n xs) (B : Blk w g T cs) (hT : e ≠ T) (k : Chg (fun y => y = g) w w') : w'.ownsRow lo e sz v n xs := by
  refine Chg.own h k fun y hy (e' : y = g) => ?_
  subst e'
  rcases h.2 with ⟨h1, _⟩ | ⟨g1, cap, cur, hv, _, hg, _⟩
  · rw [h1] at hy; cases hy
  · rw [hv] at hy
    have : g1 = y := by simpa [Value.ownBlock] using hy
    subst this
    unfold Blk at B
    rw [B] at hg
    injection hg with hg
    injection hg with _ h2 _
    exact hT h2.symm
theorem shT_keep {lo n g : Nat} {L : List Int} {t v : Value} {w w' : World} {T : TypeId} {cs : Array Value} (h : shT lo n L t v w) (B : Blk w g T cs) (hT : 3 ≠ T) (k : Chg (fun y => y = g) w w') : shT lo n L t v w' := by
  obtain ⟨A, c, h1, h2⟩ := h
  exact ⟨A, c, h1, own_far h2 B hT k⟩
theorem shV_keep {lo n g : Nat} {L : List Int} {v : Value} {w w' : World} {T : TypeId} {cs : Array Value} (h : shV lo n L v w) (B : Blk w g T cs) (hT : 3 ≠ T) (k : Chg (fun y => y = g) w w') : shV lo n L v w' := by
  obtain ⟨A, c, h1, h2⟩ := h
  exact ⟨A, c, h1, own_far h2 B hT k⟩
theorem Chg.trans' {S : Nat → Prop} {a b c : World} {r : Option Nat} (h : Chg S a b) (k : b.grownBy c r) (hr : ∀ g, r = some g → S g ∨ a.heap.size ≤ g) : Chg S a c :=
  ⟨k.os.trans h.os, k.tape.trans h.tape, k.output.trans h.output, Nat.le_trans h.size k.size, fun i hi hs => (k.block i (Nat.lt_of_lt_of_le hi h.size) (fun e => by
    rcases hr i e.symm with h1 | h1
    · exact hs h1
    · omega)).trans (h.block i hi hs)⟩
/-- .. on blocks of S, below B. -/
def MOS (S : Nat → Prop) (w : World) (s : Value) (rows : List (List Int)) : Prop := ∃ F, (cintss rows).own w F s ∧ ∀ x ∈ F, S x
def MOB (S : Nat → Prop) (B : Nat) (w : World) (s : Value) (rows : List (List Int)) : Prop := ∃ F, (cintss rows).own w F s ∧ ∀ x ∈ F, S x ∧ x < B
section
variable {S : Nat → Prop} {B : Nat} {w w' : World} {s : Value} {rows : List (List Int)}
theorem MOS.b (h : MOS S w s rows) : MOB S w.heap.size w s rows := by
  obtain ⟨F, h1, h2⟩ := h
  exact ⟨F, h1, fun x hx => ⟨h2 x hx, CS.lt _ h1 x hx⟩⟩
theorem MOS.grow (h : MOS S w s rows) (hg : w.grownBy w' none) : MOS S w' s rows := by
  obtain ⟨F, h1, h2⟩ := h
  exact ⟨F, own_growK _ h1 hg, h2⟩
theorem MOS.form (h : MOS S w s rows) : ∃ A c, s = .slice A rows.length c := by
  obtain ⟨F, h1, h2⟩ := h
  obtain ⟨A, c, h3, _⟩ := cintss_mat (CS.toRd _ h1)
  exact ⟨A, c, h3⟩
theorem MOB.grow (h : MOB S B w s rows) (hg : w.grownBy w' none) : MOB S B w' s rows := by
  obtain ⟨F, h1, h2⟩ := h
  exact ⟨F, own_growK _ h1 hg, h2⟩
theorem MOB.chg {g : Nat} (h : MOB S B w s rows) (k : Chg (fun y => y = g) w w') (hg : ¬ S g) : MOB S B w' s rows := by
  obtain ⟨F, h1, h2⟩ := h
  exact ⟨F, own_chgK _ h1 k (fun x hx (e : x = g) => hg (e ▸ (h2 x hx).1)), h2⟩
theorem MOB.push (h : MOB S B w s rows) (hS : ∀ x, B ≤ x → S x) {r : List Int} {u : Value} {Fr : List Nat} (hu : (cints r).own w Fr u) (hd : ∀ x ∈ Fr, B ≤ x) (hB : B ≤ w.heap.size) :
    ∃ vs, w.ownsRow 0 22 1 s rows.length vs ∧ (∀ g, s.ownBlock = some g → S g ∧ g < B) ∧ ∀ (w2 : World) (v2 : Value), w2.ownsRow 0 22 1 v2 (rows.length + 1) (vs ++ [u]) → w.grownBy w2 s.ownBlock → (∀ g, v2.ownBlock = some g → some g = s.ownBlock ∨ w.heap.size ≤ g) → MOS S w2 v2 (rows ++ [r]) := by
  obtain ⟨F, h1, h2⟩ := h
  have hF : ∀ x ∈ F, x < B := fun x hx => (h2 x hx).2
  obtain ⟨n, vs, hl, hown, hob, hpush⟩ := row_push h1
  have hn : rows.length = n := by rw [cintss_flat] at hl; simpa using hl
  subst hn
  refine ⟨vs, hown, fun g hg => h2 g (hob g hg), fun w2 v2 ho2 hg2 hv2 => ?_⟩
  have hFr : ∀ x ∈ Fr, x < w.heap.size := CS.lt _ hu
  have hu2 : (cints r).own w2 Fr u := CS.kept _ hu fun g hg' => hg2.block g (hFr g hg') (fun e => by
    have h5 := hF g (hob g e.symm)
    have h6 := hd g hg'
    omega)
  obtain ⟨F', hF', hs⟩ := hpush w2 v2 1 [u] [cints r] [Fr] rfl ho2 hg2 hv2 (OwnAll.cons hu2 (OwnAll.nil _) (fun g hg' => by simp))
    (fun x hx hx' => by
      have h5 := hF x hx'
      have h6 := hd x (by simpa using hx)
      omega)
    (fun g hg' hx => by
      have hx : g ∈ Fr := by simpa using hx
      rcases hv2 g hg' with h5 | h5
      · have := hF g (hob g h5.symm); have := hd g hx; omega
      · have := hFr g hx; omega)
  refine ⟨F', ?_, fun x hx => ?_⟩
  · have e : (rows ++ [r]).flatMap (fun r => [cints r]) = rows.flatMap (fun r => [cints r]) ++ [cints r] := by simp
    show (row 22 1 ((rows ++ [r]).flatMap fun r => [cints r])).own w2 F' v2
    rw [e]
    exact hF'
  · rcases hs x hx with h5 | h5 | h5
    · exact (h2 x h5).1
    · exact hS x (by omega)
    · exact hS x (hd x (by simpa using h5))
end
/-- A pointer to a new block of two cells. -/
def anyBox (lo : Nat) (t : TypeId) (v : Value) (w : World) : Prop := ∃ g u0 u1, v = .pointer (some ⟨g, 0, none⟩) ∧ lo ≤ g ∧ Blk w g t #[u0, u1]
theorem anyBox_st {lo : Nat} {t : TypeId} : stable (anyBox lo t) := fun v w w' ⟨g, u0, u1, h1, h2, h3⟩ hg => ⟨g, u0, u1, h1, h2, h3.grow hg⟩
theorem implOpenAdd_yes (p : Int) (A : Option Addr) (n c : Nat) (zs : List Int) (w : World) (h : elemsB p zs = true) (hx : Ints w A n zs) (h1 : 1 ≤ n) (h5 : n ≤ 5) :
    Calls Try.prog 53 #[.int .i64 p, .slice A n c] w fun e w' => e = .returned (.int .i64 (fsum p zs)) ∧ w = w' := by
  have HE := Lib.hid h
  have HX := Lib.hid hx
  have q1 := Lib.hid (inQ_yes (z := (n : Int)) (a := 1) (b := 5) (by omega) (by omega))
  clear h hx
  go_enter Try.func53, Try.ntmps53
  go_wp2_with fail
  refine (implInq_c n 1 5 _).mono ?_
  rintro e w1 ⟨rfl, rfl⟩
  rw [q1.out]
  go_wp2_with fail
  refine (implFSum_y p A n c zs _ HE.out HX.out (by omega)).mono ?_
  rintro e w1 ⟨rfl, rfl⟩
  go_wp2_with fail
  go_ret
  exact ⟨rfl, rfl⟩
set_option maxRecDepth 20000 in
set_option maxHeartbeats 2000000 in
theorem FnSharedBits.walk (w : World) (A : Option Addr) (n c : Nat) (zs : List Int) (hz : IntsK .u8 w A n zs) (hm : n ≤ maxLen) :
    Calls Try.prog 15 #[.slice A n c] w fun e w' => e = .returned (.bool true) ∧ w.grownBy w' none := by
  unfold maxLen at hm
  by_cases hbig : 1048576 < n
  · have hd : decide (1048576 < n) = true := by simp; omega
    go_enter Try.func15, Try.ntmps15
    go_wp2_with fail
    refine (big_c _ A n c (by omega)).mono ?_
    rintro e w1 ⟨rfl, rfl⟩
    go_wp2_with fail
    go_ret
    exact ⟨rfl, gbR _ _⟩
  · have hd : decide (1048576 < n) = false := by simp; omega
    have H := Lib.hid (bytesIn hz (by omega))
    clear hz
    go_enter Try.func15, Try.ntmps15
    go_wp2_with fail
    refine (big_c _ A n c (by omega)).mono ?_
    rintro e w1 ⟨rfl, rfl⟩
    rw [hd]
    clear hd hbig hm
    go_wp2_with fail
    refine (DrawPrime_c _ A n c zs H.out).mono ?_
    rintro e w1 ⟨p, rfl, hp, hg1⟩
    have hf := nine_field p hp
    obtain ⟨p2, p101⟩ := field_range hf
    obtain ⟨P, rfl, hP⟩ := nine_nat hp
    have HF := Lib.hid hf
    have HP := Lib.hid hP
    have G1 := Lib.hid hg1
    clear hp hf hg1 hP
    go_wp2_with fail
    refine (DrawPlaces_c _ A n c zs (H.out.grow G1.out)).mono ?_
    rintro e w2 ⟨v, qs, rfl, hown, hq, hg⟩
    obtain ⟨B, d, rfl, _, _⟩ := own_form hown
    have HI := Lib.hid (show Ints w2 B 12 qs from Rd.ofOwn hown)
    have q0 := hq.at_ 0 (by omega)
    have q1 := hq.at_ 1 (by omega)
    have G2 := Lib.hid (gbT G1.out hg)
    clear hown hq hg
    go_wp2_with fail
    refine (DrawTape_c _ A n c zs (H.out.grow G2.out)).mono ?_
    rintro e w3 ⟨s, a, rfl, hs, ha, hg3⟩
    obtain ⟨gT, hgT⟩ : ∃ g, w3.heap.size = g := ⟨_, rfl⟩
    have GTw : w.heap.size ≤ gT := by rw [← hgT]; exact (gbT G2.out hg3).size
    obtain ⟨w4, hw4⟩ : ∃ x : World, w3.alloc (.cells #[.int .i64 s, .int .i64 a] 72) = x := ⟨_, rfl⟩
    have BT : Hid (Blk w4 gT 72 #[.int .i64 s, .int .i64 a]) := by rw [← hw4, ← hgT]; exact Lib.hid (Blk.new _ _ _)
    have G4 : Hid (w.grownBy w4 none) := by rw [← hw4]; exact Lib.hid (gbA (gbT G2.out hg3) _)
    have HI4 : Hid (Ints w4 B 12 qs) := by rw [← hw4]; exact Lib.hid (HI.out.grow (gbA hg3 _))
    have z4 : w4.heap.size = gT + 1 := by rw [← hw4, ← hgT]; simp
    obtain ⟨b, o, rfl, hb, hc⟩ := HI4.out.at_ (by omega)
    have c0 := hc 0 (by omega)
    have c1 := hc 1 (by omega)
    rw [Nat.add_zero] at c0
    clear hc hg3 HI HI4
    obtain ⟨q00, q01⟩ := q0
    obtain ⟨q10, q11⟩ := q1
    generalize qs.getD 0 0 = y0 at *
    generalize qs.getD 1 0 = y1 at *
    obtain ⟨X, hX⟩ : ∃ X : Nat, y0 % (P : Int) = (X : Int) := ⟨(y0 % (P : Int)).toNat, by have := Int.emod_nonneg y0 (show (P : Int) ≠ 0 by omega); omega⟩
    have hXP : X < P := by have := Int.emod_lt_of_pos y0 (show (0 : Int) < P by omega); omega
    have qt : Int.tmod y0 (P : Int) = (X : Int) := by rw [Int.tmod_eq_emod_of_nonneg q00]; exact hX
    obtain ⟨N, hN⟩ : ∃ N : Nat, 2 + y1 % 3 = (N : Int) := ⟨(2 + y1 % 3).toNat, by omega⟩
    have hN1 : 2 ≤ N := by omega
    have hN4 : N ≤ 4 := by omega
    have P0 : ¬ P = 0 := by omega
    go_wp2_with fail
    refine (specFieldBits_yes (P : Int) _ HF.out).mono ?_
    rintro e w5 ⟨rfl, rfl⟩
    have fb7 := fb_le (P : Int)
    obtain ⟨M, hM⟩ : ∃ M, fb (P : Int) = M := ⟨_, rfl⟩
    rw [hM] at fb7 ⊢
    go_wp2_with fail
    refine (specBitsOf_yes X M _ (by omega) (by omega)).mono ?_
    rintro e w6 ⟨v6, rfl, o6, g6⟩
    obtain ⟨Ab, cb, rfl, hAb, _⟩ := own_form o6
    have HB := Lib.hid (show Ints w6 Ab M (bitList X M) from Rd.ofOwn o6)
    have z6 := g6.size
    simp [z4] at z6
    have OB := Lib.hid (show w6.ownsRow (gT + 2) 3 1 (.slice Ab M cb) M ((bitList X M).map (Value.int .i64)) from own_base o6 (by simp; omega))
    have M6 : Hid (MOS (fun x => x = gT + 1 ∨ w6.heap.size ≤ x) w6 (.slice (some ⟨gT + 1, 0, none⟩) 0 0) []) := by
      have h0 := World.ownsRow_made (e := 22) (size := 1) (base := gT + 1) w4 #[] 0 (by omega) (by simp) rfl
      rw [z4] at h0
      exact ⟨[gT + 1], ⟨0, [], [], rfl, own_base (own_grow h0 g6) (Nat.zero_le _), OwnAll.nil _, by simp [Value.ownBlock], by simp⟩, fun x hx => by simp at hx; exact .inl hx⟩
    have B6 := Lib.hid ((BT.out.grow (gbA (gbR _ _) _)).grow g6)
    have G6 := Lib.hid (gbT (gbA G4.out _) g6)
    have LB := Lib.hid (bitList_length X M)
    have LBb := Lib.hid (bitList_bits X M)
    have HM := Lib.hid hM
    obtain ⟨BL, hBL⟩ : ∃ l, bitList X M = l := ⟨_, rfl⟩
    rw [hBL] at HB OB LB LBb
    have HBL := Lib.hid hBL
    clear o6 g6 BT G4 hBL c0 c1 hAb qt hX hN hM
    go_wp2_with fail
    go_loopw [8, 10] (fun v i wr => ∃ k : Nat, k ≤ M ∧ i = .int .i64 k ∧ Hid (MOS (fun x => x = gT + 1 ∨ w6.heap.size ≤ x) wr v (rowsS P s a N BL k)) ∧ Hid (Blk wr gT 72 #[.int .i64 s, .int .i64 ((a + k * (N - 1) : Nat) : Int)]) ∧ Hid (Chg (fun y => y = gT ∨ y = gT + 1) w6 wr) ∧ Hid (w.grownBy wr none)) (fun _ i _ => M - (intOf i).toNat)
    case atStart => exact ⟨0, Nat.zero_le _, rfl, M6.out, Lib.hid (by simpa using B6.out), Lib.hid (Chg.refl _ _), G6.out⟩
    case round =>
      obtain ⟨k, hk, rfl, hMO, hBT, hGb, hG⟩ := hrel
      obtain ⟨A4, c4, rfl⟩ := hMO.out.form
      rw [rowsS_len]
      by_cases hlt : k < M
      · have i1 : (k : Int) < (M : Int) := by omega
        have HBI : Ints wr Ab M BL := Chg.rd HB.out hGb.out (fun a' ha' e => by
          have h1 := (OB.out.lt a'.block (by rw [ownB, ha']; rfl)).1
          rcases e with e | e
          · have e : a'.block = gT := e; omega
          · have e : a'.block = gT + 1 := e; omega)
        obtain ⟨bb, ob, rfl, hbb, hcb⟩ := HBI.at_ (by omega)
        have cbk := hcb k hlt
        have HBit : Hid (0 ≤ BL.getD k 0 ∧ BL.getD k 0 ≤ 1) := by
          have := LB.out
          unfold Hid
          rw [getI _ k (by omega)]
          exact LBb.out _ (List.getElem_mem _)
        have HRS := Lib.hid (rowsS_succ P s a N BL k)
        obtain ⟨bit, hbit⟩ : ∃ x, BL.getD k 0 = x := ⟨_, rfl⟩
        rw [hbit] at cbk HBit HRS
        obtain ⟨T, hT⟩ : ∃ T, a + k * (N - 1) = T := ⟨_, rfl⟩
        have hTb : T ≤ 100 := by
          have h1 : k * (N - 1) ≤ 6 * 3 := Nat.mul_le_mul (by omega) (by omega)
          omega
        have hT2 : a + (k + 1) * (N - 1) = T + (N - 1) := by rw [Nat.add_mul, Nat.one_mul]; omega
        rw [hT] at hBT HRS
        have t0 := hBT.out.cell 0
        have t1 := hBT.out.cell 1
        simp at t0 t1
        have EB : Hid (elemB (P : Int) bit = true) := by
          have h1 := HBit.out.1
          have h2 := HBit.out.2
          exact elemB_mk HF.out h1 (by omega)
        clear hcb hbit hT HBI
        obtain ⟨L, hL⟩ : ∃ L, shareL P bit (tapeL s T P (N - 1)) = L := ⟨_, rfl⟩
        rw [hL] at HRS
        have HL := Lib.hid hL
        clear hL
        go_wp2_with fail
        have C0 := Lib.hid cbk
        have T0 := Lib.hid t0
        have T1 := Lib.hid t1
        clear cbk t0 t1
        refine region_reg4 [onT 47 (isV (.int .i64 P)), onT 48 (isV (.slice (some ⟨bb, ob, none⟩) M cb)), onT 49 (isV (.int .i64 k)), onT 50 (isV (.pointer (some ⟨bb, ob + k, none⟩))), onT 51 (isV (.int .i64 bit)), onT 52 (isV (.int .i64 N)), onT 53 (isV (.agg #[.int .i64 s, .int .i64 T])), onT 54 (shT wr.heap.size N L (.agg #[.int .i64 s, .int .i64 ((T + (N - 1) : Nat) : Int)])), onT 46 (shT wr.heap.size N L (.agg #[.int .i64 s, .int .i64 ((T + (N - 1) : Nat) : Int)])), onT 55 (shV wr.heap.size N L), onT 56 (isV (.agg #[.int .i64 s, .int .i64 ((T + (N - 1) : Nat) : Int)])), onT 12 (anyBox wr.heap.size 72), onT 11 (shV wr.heap.size N L), onT 12 (isBox wr.heap.size 72 #[.int .i64 s, .int .i64 ((T + (N - 1) : Nat) : Int)])] [] (by kernel_rfl) (by kernel_rfl) (by kernel_rfl) (by simp [stablesF, stableF_on, isV_st, isBox_st, shT_st, shV_st, anyBox_st]) ?_ ?_
        · simp only [hops4, and_true]
          refine ⟨?_, ?_, ?_, ?_, ?_, ?_, ?_, ?_, ?_, ?_, ?_, ?_, ?_, ?_⟩
          rotate_left 7
          · intro f w7 hG7 _ hd
            simp [depsF, bindE, List.filter_cons, bd_data, bd_chain, bd_guard, bd_phase, bd_text, bd_gc, fAt, onT_at, isV] at hd
            have hg7 := chgNil hG7
            simp [puts, dsts, Act.put, hd]
            clear hd
            have z7 := hg7.size
            simp at z7
            go_wp2_with fail
            refine (specShareAdd_yes P s T N bit w7 EB.out hs (by omega) (by omega) (by omega)).mono ?_
            rintro e w8 ⟨v, rfl, o8, g8⟩
            rw [HL.out] at o8
            obtain ⟨A8, c8, rfl, _, _⟩ := own_form o8
            have O8 := Lib.hid (own_base o8 z7)
            have G8 := Lib.hid g8
            clear o8 g8
            go_wp2_with fail
            exact ⟨_, rfl, ⟨A8, c8, rfl, O8.out⟩, Or.inl G8.out⟩
          rotate_left 4
          · intro f w7 hG7 _ hd
            simp [depsF, bindE, List.filter_cons, bd_data, bd_chain, bd_guard, bd_phase, bd_text, bd_gc, fAt, onT_at, isV] at hd
            obtain ⟨⟨A8, c8, e55, o8⟩, _⟩ := hd
            simp [puts, dsts, Act.put, e55]
            go_wp2_with fail
            exact ⟨_, rfl, ⟨A8, c8, rfl, o8⟩, Or.inl (gbR _ _)⟩
          · intro f w7 hG7 _ hd
            simp [depsF, bindE, List.filter_cons, bd_data, bd_chain, bd_guard, bd_phase, bd_text, bd_gc, fAt, onT_at, isV] at hd
            obtain ⟨⟨g9, u0, u1, e12, hg9, B9⟩, e56, _⟩ := hd
            have f0 := B9.frozen 0
            have f1 := B9.frozen 1
            have b0 := B9.cell 0
            have b1 := B9.cell 1
            simp at b0 b1
            have RS := Lib.hid (blk_setCells B9 [.int .i64 s, .int .i64 ((T + (N - 1) : Nat) : Int)] rfl)
            have CH := Lib.hid (chg_setCells g9 [.int .i64 s, .int .i64 ((T + (N - 1) : Nat) : Int)] 0 w7)
            have B9 := Lib.hid B9
            simp [puts, dsts, Act.put, e12, e56]
            go_wp2_with fail
            refine ⟨rfl, ⟨.bool false, g9, e12, hg9, RS.out⟩, Or.inr ⟨CH.out.mono (fun y hy => by have hy : y = g9 := hy; rw [hy]; first | exact hg9 | exact .inl hg9), ?_⟩⟩
            simp [keeps, onT_at, isV]
            exact ⟨fun h => shT_keep h B9.out (by decide) CH.out, fun h => shT_keep h B9.out (by decide) CH.out, fun h => shV_keep h B9.out (by decide) CH.out, fun _ => ⟨g9, _, _, e12, hg9, RS.out⟩, fun h => shV_keep h B9.out (by decide) CH.out⟩
          all_goals
            intro f w7 hG7 _ hd
            have hg7 := chgNil hG7
            have hs7 := hg7.size
            try simp at hs7
            have k0 := gbk hg7 (kD C0.out)
            have k1 := gbk hg7 (kD T0.out)
            have k2 := gbk hg7 (kD T1.out)
            clear hG7
            simp [depsF, bindE, List.filter_cons, bd_data, bd_chain, bd_guard, bd_phase, bd_text, bd_gc, fAt, onT_at, isV] at hd
            try obtain ⟨A8, c8, hd, o8⟩ := hd
            try obtain ⟨⟨A8, c8, hd, o8⟩, _⟩ := hd
            first | simp [puts, dsts, Act.put, hd] | simp [puts, dsts, Act.put]
            go_wp2_with fail
            first
              | exact ⟨_, rfl, ⟨A8, c8, rfl, o8⟩, Or.inl (gbR _ _)⟩
              | exact ⟨_, rfl, by simp [fAt, onT_at, upd_some, isV], Or.inl (gbR _ _)⟩
              | exact ⟨_, rfl, ⟨w7.heap.size, _, _, rfl, hs7, Blk.new _ _ _⟩, Or.inl (gbA (gbR _ _) _)⟩
        · intro f w5 hG5 hd
          have G5 := Lib.hid (gbT (gbD (gbR wr none)) (chgNil hG5))
          simp [knowsF, onT_at, isV] at hd
          obtain ⟨h0_, h1_, h2_, h3_, h4_, h5_, h6_, ⟨A54, c54, h7_, _⟩, ⟨A46, c46, h8_, _⟩, ⟨A55, c55, h9_, _⟩, h10_, _, ⟨A11, c11, h12_, o11⟩, ⟨g12, h13_, hg12, B12⟩⟩ := hd
          simp only [puts, dsts, Act.put, h0_, h1_, h2_, h3_, h4_, h5_, h6_, h7_, h8_, h9_, h10_, h12_, h13_, List.filterMap_cons, List.filterMap_nil, List.setIfInBounds_toArray, List.set_cons_zero, List.set_cons_succ]
          clear h0_ h1_ h2_ h3_ h4_ h5_ h6_ h7_ h8_ h9_ h10_ h12_ h13_ hG5
          have t0 := B12.cell 0
          have t1 := B12.cell 1
          simp at t0 t1
          have BT5 := Lib.hid (hBT.out.grow G5.out)
          have f0 := BT5.out.frozen 0
          have f1 := BT5.out.frozen 1
          have b0 := BT5.out.cell 0
          have b1 := BT5.out.cell 1
          simp at b0 b1
          have O11 := Lib.hid o11
          have MO5 := Lib.hid (hMO.out.b.grow G5.out)
          have GB5 := Lib.hid (hGb.out.trans (Chg.of (S := fun y => y = gT ∨ y = gT + 1) G5.out (by simp)))
          have GG5 := Lib.hid (gbT hG.out G5.out)
          clear o11 B12
          have CHT := Lib.hid (chg_setCells gT [.int .i64 s, .int .i64 ((T : Int) + ((N - 1 : Nat) : Int))] 0 w5)
          have BT6 := Lib.hid (blk_setCells BT5.out [.int .i64 s, .int .i64 ((T : Int) + ((N - 1 : Nat) : Int))] rfl)
          have O6 := Lib.hid (own_far O11.out BT5.out (by decide) CHT.out)
          have MO6 := Lib.hid (MO5.out.chg CHT.out (by omega))
          have GB6 := Lib.hid (GB5.out.trans (CHT.out.mono (T := fun y => y = gT ∨ y = gT + 1) (fun y hy => .inl hy)))
          have GG6 := Lib.hid (gb_chg GG5.out CHT.out GTw)
          obtain ⟨w8, hw8⟩ : ∃ x, setCells w5 gT 0 [.int .i64 s, .int .i64 ((T : Int) + ((N - 1 : Nat) : Int))] = x := ⟨_, rfl⟩
          have hz8 : w8.heap.size = w5.heap.size := by rw [← hw8]; simp [setCells]
          rw [hw8] at BT6 O6 MO6 GB6 GG6
          simp [setCells] at hw8
          have hs5 := G5.out.size
          have hU : Hid ((cints L).own w8 (Value.slice A11 N c11).ownBlock.toList (.slice A11 N c11)) := Lib.hid (cints_own O6.out)
          obtain ⟨vs, OW, OL, PU⟩ := MO6.out.push (fun x hx => .inr (by have := hGb.out.size; omega)) hU.out (fun x hx => (O6.out.lt x (by simpa using hx)).1) (by omega)
          rw [rowsS_len] at OW PU OL
          have OW := Lib.hid OW
          have PU := Lib.hid PU
          have OL := Lib.hid OL
          have WR6 := hGb.out.size
          have BT6 := Lib.hid BT6.out
          have gT8 : gT + 1 ≤ w8.heap.size := by have := BT6.out.lt; omega
          clear MO6 MO5 O6 hU O11 BT5 GB5 GG5 CHT hMO hGb hG hBT C0 T0 T1
          go_wp2_with (at_builtin; (refine wp_appendG w8 w5.heap.size hz8 el_ints rfl (.tmp 58) (.tmp 60) rfl #[.slice A11 N c11] rfl (by simp [Value.oneCell']) 0 _ k vs OW.out rfl rfl (by unfold maxLen; omega) (by omega) (Nat.zero_le _) ?_); intro v' w9 o7 g7 k7; (have P9 := Lib.hid (PU.out w9 v' o7 (gbT (gbA (gbR _ _) _) g7) (fun g hg => by rcases k7 g hg with h | h; exact .inl h; exact .inr (by omega))); have BT9 := Lib.hid (BT6.out.grown (gbT (gbA (gbR _ _) _) g7) (fun e => by have := (OL.out _ e.symm).1; have := WR6; omega)); have GB9 := Lib.hid (GB6.out.trans' (gbT (gbA (gbR _ _) _) g7) (fun g hg => by rcases (OL.out g hg).1 with h | h; exact .inl (.inr h); exact .inr h)); have GG9 := Lib.hid (gbN GG6.out (gbT (gbA (gbR _ _) _) g7) (fun g hg => by rcases (OL.out g hg).1 with h | h; omega; omega)); clear o7 g7 k7 PU OW OL BT6 GB6 GG6))
          rw [← HRS.out] at P9
          obtain ⟨A9, c9, hv9⟩ := P9.out.form
          rw [rowsS_len] at hv9
          subst hv9
          have BT9' : Hid (Blk w9 gT 72 #[.int .i64 s, .int .i64 ((a + (k + 1) * (N - 1) : Nat) : Int)]) := by
            rw [hT2, show ((T + (N - 1) : Nat) : Int) = (T : Int) + ((N - 1 : Nat) : Int) by omega]
            exact BT9
          clear BT9
          go_wp2_with fail
          go_roundw
          case rel => exact ⟨k + 1, by omega, by go_num, P9.out, BT9'.out, GB9.out, GG9.out⟩
          case measure => simp [intOf]; omega
      · have hkM : k = M := by omega
        subst hkM
        have HR : Hid (Mat wr A4 k (rowsS P s a N BL k)) := by
          obtain ⟨F, h1, h2⟩ := hMO.out
          obtain ⟨A', c', h3, _, _, h4⟩ := cintss_mat (CS.toRd _ h1)
          rw [rowsS_len] at h3 h4
          injection h3 with e1 _ e3
          subst e1
          exact h4
        obtain ⟨R, hR⟩ : ∃ R, rowsS P s a N BL k = R := ⟨_, rfl⟩
        have RL : R.length = k := by rw [← hR, rowsS_len]
        have RN : Hid (∀ q, q < k → (R.getD q []).length = N ∧ elemsB (P : Int) (R.getD q []) = true) := Lib.hid (fun q hq => by
          rw [← hR, rowsS_at hq]
          exact ⟨by rw [shareL_len, tapeL_len]; omega, shareL_elems (elems_tape HF.out (by omega))⟩)
        rw [hR] at HR
        have HRR := Lib.hid hR
        have GW := Lib.hid hG.out
        have k1 : 1 ≤ k := by
          rcases Nat.eq_zero_or_pos k with h | h
          · exfalso
            have h0 := HM.out
            have h1 := HP.out
            subst h
            have : ∀ p ∈ ([2, 3, 5, 7, 11, 13, 31, 97, 101] : List Nat), fb (p : Int) ≠ 0 := by decide
            exact this P h1 h0
          · exact h
        clear hMO hBT hGb hG hR HB OB M6 B6 G6 LBb
        go_wp2_with fail
        have O0 := Lib.hid (World.ownsRow_made (e := 3) (size := 1) (base := wr.heap.size) wr #[] 0 (Nat.le_refl _) (by simp) rfl)
        obtain ⟨w7, rfl⟩ : ∃ w7 : World, w7 = wr := ⟨_, rfl⟩
        go_loopw [13, 14] (fun v i wr => ∃ j : Nat, j ≤ N ∧ i = .int .i64 j ∧ Hid (wr.ownsRow w7.heap.size 3 1 v j ((sumsS P s a N BL k j).map (Value.int .i64))) ∧ Hid (w7.grownBy wr none)) (fun _ i _ => N - (intOf i).toNat)
        case atStart => exact ⟨0, Nat.zero_le _, rfl, Lib.hid (by simpa [sumsS] using O0.out), Lib.hid (gbA (gbR _ _) _)⟩
        case round =>
          clear O0
          obtain ⟨j, hj, rfl, hO, hG⟩ := hrel
          obtain ⟨A5, c5, rfl, _, _⟩ := own_form hO.out
          by_cases hlt2 : j < N
          · have i2 : (j : Int) < (N : Int) := by omega
            have HSS := Lib.hid (sumsS_succ P s a N BL k j)
            rw [HRR.out] at HSS
            go_wp2_with fail
            have O1 := Lib.hid (World.ownsRow_made (e := 3) (size := 1) (base := wr.heap.size) wr #[] 0 (Nat.le_refl _) (by simp) rfl)
            obtain ⟨w8, rfl⟩ : ∃ w8 : World, w8 = wr := ⟨_, rfl⟩
            go_loopw [15, 16] (fun v i wr => ∃ q : Nat, q ≤ k ∧ i = .int .i64 q ∧ Hid (wr.ownsRow w8.heap.size 3 1 v q (((colS R j).take q).map (Value.int .i64))) ∧ Hid (w8.grownBy wr none)) (fun _ i _ => k - (intOf i).toNat)
            case atStart => exact ⟨0, Nat.zero_le _, rfl, Lib.hid (by simpa using O1.out), Lib.hid (gbA (gbR _ _) _)⟩
            case round =>
              clear O1
              obtain ⟨q, hq, rfl, hO2, hG2⟩ := hrel
              obtain ⟨A6, c6, rfl, _, _⟩ := own_form hO2.out
              by_cases hlt3 : q < k
              · have i3 : (q : Int) < (k : Int) := by omega
                obtain ⟨b', o', C, c7, e', hb', r1, r2, r3, r4⟩ := mat_at (RdC.grow HR.out (gbT hG.out hG2.out)) hlt3
                subst e'
                obtain ⟨hrl, _⟩ := RN.out q hlt3
                have HT : Hid ((colS R j).take (q + 1) = (colS R j).take q ++ [(R.getD q []).getD j 0]) := by
                  unfold Hid
                  have hl : q < (colS R j).length := by unfold colS; simp; omega
                  rw [take_snoc' _ q hl]
                  unfold colS
                  have hql : q < R.length := by omega
                  simp [List.getD_eq_getElem?_getD, List.getElem?_map, List.getElem?_eq_getElem hql]
                rw [hrl] at r1 r2 r3
                obtain ⟨rb, ro, rfl, _, rc⟩ := r2.at_ (by omega)
                have cj := rc j hlt2
                generalize (R.getD q []).getD j 0 = y at *
                have OW := Lib.hid hO2.out
                have GW2 := Lib.hid hG2.out
                clear hO2 hG2 rc r2 hrl
                go_wp2_with (at_builtin; (refine wp_append1h _ wr.heap.size rfl el_int rfl (.tmp 75) (.tmp 83) rfl _ rfl (by simp [Value.oneCell']) w8.heap.size _ q _ OW.out rfl rfl (by unfold maxLen; omega) (by omega) GW2.out.size ?_); intro v' w9 o9 g9; (have h1 : Hid (w9.ownsRow w8.heap.size 3 1 v' (q + 1) (((colS R j).take (q + 1)).map (Value.int .i64))) := (by unfold Hid; rw [HT.out]; simpa using o9); have h2 := Lib.hid (gbN GW2.out g9 (fun g e => (OW.out.lt g e).1)); clear o9 g9 OW GW2))
                go_wp2_with fail
                go_roundw
                case rel => exact ⟨q + 1, by omega, by go_num, h1, h2⟩
                case measure => simp [intOf]; omega
              · have hqk : q = k := by omega
                subst hqk
                have hcl : (colS R j).length = q := by unfold colS; simp [RL]
                have OC := hO2.out
                rw [List.take_of_length_le (by omega)] at OC
                have HC := Lib.hid (show Ints wr A6 q (colS R j) from Rd.ofOwn OC)
                have HD : Hid (dotB (P : Int) (colS R j) = true) := by
                  unfold Hid dotB
                  rw [Bool.and_eq_true, decide_eq_true_eq]
                  refine ⟨elemsB_mk HF.out fun z hz => ?_, by omega⟩
                  unfold colS at hz
                  obtain ⟨r, hr, rfl⟩ := List.mem_map.1 hz
                  obtain ⟨i, hi, hir⟩ := List.mem_iff_getElem.1 hr
                  obtain ⟨h1, h2⟩ := RN.out i (by omega)
                  have e : R.getD i [] = r := by rw [List.getD_eq_getElem?_getD, List.getElem?_eq_getElem hi, ← hir]; rfl
                  rw [e] at h1 h2
                  exact elemB_rng h2 (by omega)
                have OS := Lib.hid (own_grow hO.out hG2.out)
                have GS := Lib.hid (gbT hG.out hG2.out)
                clear OC hO hG hO2 hG2
                go_wp2_with fail
                refine (implDotBits_yes (P : Int) A6 q c6 (colS R j) _ HC.out HD.out).mono ?_
                rintro e w9 ⟨rfl, g9⟩
                have OS9 := Lib.hid (own_grow OS.out g9)
                have GS9 := Lib.hid (gbT GS.out g9)
                obtain ⟨D, hD⟩ : ∃ D, (dotTo (P : Int) (colS R j) q).1 = D := ⟨_, rfl⟩
                rw [hD] at HSS ⊢
                clear g9 OS GS HC HD hD
                go_wp2_with (at_builtin; (refine wp_append1h _ w9.heap.size rfl el_int rfl (.tmp 85) (.tmp 89) rfl _ rfl (by simp [Value.oneCell']) w7.heap.size _ j _ OS9.out rfl rfl (by unfold maxLen; omega) (by omega) GS9.out.size ?_); intro v' w10 o10 g10; (have h1 : Hid (w10.ownsRow w7.heap.size 3 1 v' (j + 1) ((sumsS P s a N BL q (j + 1)).map (Value.int .i64))) := (by unfold Hid; rw [HSS.out]; simpa using o10); have h2 := Lib.hid (gbN GS9.out g10 (fun g e => (OS9.out.lt g e).1)); clear o10 g10 OS9 GS9))
                go_wp2_with fail
                go_roundw
                case rel => exact ⟨j + 1, by omega, by go_num, h1, h2⟩
                case measure => simp [intOf]; omega
          · have hjN : j = N := by omega
            subst hjN
            have IS := Lib.hid (show Ints wr A5 j (sumsS P s a j BL k j) from Rd.ofOwn hO.out)
            have ES : Hid (elemsB (P : Int) (sumsS P s a j BL k j) = true) := Lib.hid (elemsB_mk HF.out fun z hz => by
              unfold sumsS at hz
              obtain ⟨i, _, rfl⟩ := List.mem_map.1 hz
              exact (dotTo_rng (P : Int) _ p2 k).1)
            have FS : Hid (fsum (P : Int) (sumsS P s a j BL k j) = (X : Int)) := Lib.hid (by
              rw [← HM.out, ← HBL.out, ← HM.out]
              exact shared_bits HP.out hXP (by omega))
            have GZ := Lib.hid (gbT GW.out hG.out)
            clear hO hG
            go_wp2_with fail
            refine (implOpenAdd_yes (P : Int) A5 j c5 _ _ ES.out IS.out (by omega) (by omega)).mono ?_
            rintro e w9 ⟨rfl, rfl⟩
            rw [FS.out]
            go_wp2_with fail
            go_ret
            exact ⟨rfl, GZ.out⟩
end Go.Proofs.Ythncoohkdmjcaaa
