/-
  A draw out of a list.
-/
import Derived.Test.YthaadgdeadbhkaaMgFnCosts9
import Derived.Deep.DeepCutAuto
import Derived.Test.YthaadgdeadbhkaaMgFnCosts8
import Derived.Test.YthaadgdeadbhkaaMgFnCosts6
import Derived.Test.YthaadgdeadbhkaaMgFnCosts0
namespace Go.Proofs.Ythaadgdeadbhkaa
open Go.RowKit
set_option linter.unusedVariables false
set_option linter.unusedSimpArgs false
def PickOut (w : World) (l : List Int) (g : Nat) (A : Option Addr) (n c : Nat) (bs : List Int) (e : Ending) (w' : World) : Prop :=
  ∃ x : Int, e = .returned (.int .i64 x) ∧ x ∈ l ∧ Cur w' g A n c bs ∧ w.grownBy w' (some g)
set_option maxHeartbeats 400000 in
theorem l01PickInt_c (w : World) (B : Option Addr) (m d : Nat) (l : List Int) (hl : Ints w B m l) (hm : 1 ≤ m) (hm2 : m ≤ 1099511627776) (g : Nat) (hB : Off B (some g)) (A : Option Addr) (n c : Nat) (bs : List Int) (hc : Cur w g A n c bs) :
    Calls Try.prog 162 #[.pointer (some ⟨g, 0, none⟩), .slice B m d] w (PickOut w l g A n c bs) := by
  have HC := Lib.hid hc
  have HL := Lib.hid hl
  have LL := Lib.hid hl.len
  clear hc hl
  go_enter Try.func162, Try.ntmps162
  go_wp2_with fail
  refine (l01Below_c _ m (by omega) g A n c bs HC.out).mono ?_
  rintro e w1 ⟨x, rfl, hx0, hx1, hc1, hg1⟩
  have H1 := Lib.hid hc1
  clear hc1
  obtain ⟨k, rfl⟩ := Int.eq_ofNat_of_zero_le hx0
  have hk : k < m := by have := hx1 (by omega); omega
  have i1 : (k : Int) < (m : Int) := by omega
  obtain ⟨b, o, rfl, hb, c1⟩ := (HL.out.grown hg1 hB).cell hk
  have hkl : k < l.length := by have := LL.out; omega
  rw [getI l k hkl] at c1
  clear hx1
  go_wp2_with fail
  go_ret
  exact ⟨_, rfl, List.getElem_mem hkl, H1.out, hg1⟩
end Go.Proofs.Ythaadgdeadbhkaa
/-
  FnSubsets' walk.
-/
namespace Go.Proofs.Ythaadgdeadbhkaa
open Go.RowKit
set_option linter.unusedVariables false
set_option linter.unusedSimpArgs false
theorem bytesIn {w : World} {A : Option Addr} {n : Nat} {zs : List Int} (h : IntsK .u8 w A n zs) (hn : n ≤ 1048576) : BytesIn w A n zs := ⟨h.1, fun b hb => wf_u8 (h.2 b hb), hn⟩
theorem Places.at_ {qs : List Int} (h : Places qs) (k : Nat) (hk : k < 12) : 0 ≤ qs.getD k 0 ∧ qs.getD k 0 < 10000 := by
  obtain ⟨hl, hq⟩ := h
  rw [getI qs k (by omega)]
  exact hq _ (List.getElem_mem _)
theorem big_c (w : World) (A : Option Addr) (n c : Nat) (hn : n ≤ 9223372036854775807) :
    Calls Try.prog 8 #[.slice A n c] w fun e w' => e = .returned (.bool (decide (1048576 < n))) ∧ w = w' := by
  by_cases h : 1048576 < n
  · have h1 : (1048576 : Int) < (n : Int) := by omega
    go_enter Try.func8, Try.ntmps8
    go_wp2_with fail
    go_ret
    exact ⟨retB (by first | (simp; done) | (simp; omega)), rfl⟩
  · have h1 : ¬ (1048576 : Int) < (n : Int) := by omega
    go_enter Try.func8, Try.ntmps8
    go_wp2_with fail
    go_ret
    exact ⟨retB (by first | (simp; done) | (simp; omega)), rfl⟩
end Go.Proofs.Ythaadgdeadbhkaa
/-
  A drawn prime; FnConverted's walk.
-/
namespace Go.Proofs.Ythaadgdeadbhkaa
open Go.RowKit
set_option linter.unusedVariables false
set_option linter.unusedSimpArgs false
theorem ints_new (w : World) (t : TypeId) (zs : List Int) : Ints (w.alloc (.cells (zs.map (Value.int .i64)).toArray t)) (some ⟨w.heap.size, 0, none⟩) zs.length zs := by
  refine ⟨by simp, fun _ => ⟨w.heap.size, 0, rfl, by simp, fun j hj => ?_⟩⟩
  rw [cell_of_row _ _ _ _ t (0, 0) (heap_alloc_new w _)]
  simp
def nine : List Int := [2, 3, 5, 7, 11, 13, 31, 97, 101]
theorem nine_field : ∀ p ∈ nine, fieldB p = true := by decide
set_option maxHeartbeats 400000 in
theorem l03Prime_c (w : World) (g : Nat) (A : Option Addr) (n c : Nat) (bs : List Int) (hc : Cur w g A n c bs) :
    Calls Try.prog 153 #[.pointer (some ⟨g, 0, none⟩)] w fun e w' => ∃ x : Int, e = .returned (.int .i64 x) ∧ x ∈ nine ∧ Cur w' g A n c bs ∧ w.grownBy w' (some g) := by
  have HC := Lib.hid hc
  have hlt := hc.lt
  clear hc
  go_enter Try.func153, Try.ntmps153
  go_wp2_with fail
  refine (l01PickInt_c _ _ 9 9 nine (ints_new w _ nine) (by omega) (by omega) g (fun a ha e => by injection ha with ha; subst ha; injection e with e; simp at e; omega) A n c bs (HC.out.grow (gbA (gbR _ _) _))).mono ?_
  rintro e w1 ⟨x, rfl, hx, hc1, hg1⟩
  have H1 := Lib.hid hc1
  have HX := Lib.hid hx
  have G1 := Lib.hid (gbT (gbW (gbA (gbR w none) _)) hg1)
  clear hc1 hx hg1
  go_wp2_with fail
  go_ret
  exact ⟨x, rfl, HX.out, H1.out, G1.out⟩
end Go.Proofs.Ythaadgdeadbhkaa
/-
  FnXorField's walk.
-/
namespace Go.Proofs.Ythaadgdeadbhkaa
open Go.RowKit
set_option linter.unusedVariables false
set_option linter.unusedSimpArgs false
theorem take_snoc' (zs : List Int) (k : Nat) (h : k < zs.length) : zs.take (k + 1) = zs.take k ++ [zs.getD k 0] := by
  rw [List.take_succ_eq_append_getElem h, getI zs k h]
end Go.Proofs.Ythaadgdeadbhkaa
/-
  FAdd, FSub, FMul, FSum: reference and program, on elements.
-/
namespace Go.Proofs.Ythaadgdeadbhkaa
open Go.RowKit
set_option linter.unusedVariables false
set_option linter.unusedSimpArgs false
theorem fsub_s {p a b : Int} : (a + p - b) % p = (a - b) % p := by rw [show a + p - b = a - b + p by omega, Int.add_emod_right]
set_option maxHeartbeats 400000 in
theorem specFAdd_y (p a b : Int) (w : World) (ha : elemB p a = true) (hb : elemB p b = true) :
    Calls Try.prog 143 #[.int .i64 p, .int .i64 a, .int .i64 b] w fun e w' => e = .returned (.int .i64 ((a + b) % p)) ∧ w.grownBy w' none := by
  obtain ⟨_, p2, p101, a0, a1⟩ := elemB_is ha
  obtain ⟨_, _, _, b0, b1⟩ := elemB_is hb
  have HA := Lib.hid ha
  have HB := Lib.hid hb
  clear ha hb
  go_enter Try.func143, Try.ntmps143
  go_wp2_with fail
  refine (specl03Both_c p a b _ (by omega)).mono ?_
  rintro e w1 ⟨rfl, rfl⟩
  rw [HA.out, HB.out, Bool.and_self]
  go_wp2_with fail
  go_ret
  exact ⟨rfl, gbR _ _⟩
set_option maxHeartbeats 400000 in
theorem specFSub_y (p a b : Int) (w : World) (ha : elemB p a = true) (hb : elemB p b = true) :
    Calls Try.prog 130 #[.int .i64 p, .int .i64 a, .int .i64 b] w fun e w' => e = .returned (.int .i64 ((a - b) % p)) ∧ w.grownBy w' none := by
  obtain ⟨_, p2, p101, a0, a1⟩ := elemB_is ha
  obtain ⟨_, _, _, b0, b1⟩ := elemB_is hb
  have HA := Lib.hid ha
  have HB := Lib.hid hb
  clear ha hb
  rw [← fsub_s]
  go_enter Try.func130, Try.ntmps130
  go_wp2_with fail
  refine (specl03Both_c p a b _ (by omega)).mono ?_
  rintro e w1 ⟨rfl, rfl⟩
  rw [HA.out, HB.out, Bool.and_self]
  go_wp2_with fail
  go_ret
  exact ⟨rfl, gbR _ _⟩
set_option maxHeartbeats 400000 in
theorem specFMul_y (p a b : Int) (w : World) (ha : elemB p a = true) (hb : elemB p b = true) :
    Calls Try.prog 62 #[.int .i64 p, .int .i64 a, .int .i64 b] w fun e w' => e = .returned (.int .i64 ((a * b) % p)) ∧ w.grownBy w' none := by
  obtain ⟨_, p2, p101, a0, a1⟩ := elemB_is ha
  obtain ⟨_, _, _, b0, b1⟩ := elemB_is hb
  have HA := Lib.hid ha
  have HB := Lib.hid hb
  clear ha hb
  obtain ⟨m0, m1⟩ := prod_le a0 b0 (show a ≤ 101 by omega) (show b ≤ 101 by omega)
  go_enter Try.func62, Try.ntmps62
  go_wp2_with fail
  refine (specl03Both_c p a b _ (by omega)).mono ?_
  rintro e w1 ⟨rfl, rfl⟩
  rw [HA.out, HB.out, Bool.and_self]
  go_wp2_with fail
  go_ret
  exact ⟨rfl, gbR _ _⟩
def fsum (p : Int) (l : List Int) : Int := l.sum % p
theorem fsum_step {p : Int} {l : List Int} {k : Nat} (hk : k < l.length) : (fsum p (l.take k) + l.getD k 0) % p = fsum p (l.take (k + 1)) := by
  unfold fsum
  rw [take_snoc' l k hk, List.sum_append, Int.emod_add_emod]
  simp
theorem fsum_rng {p : Int} (hp : 2 ≤ p) (l : List Int) : 0 ≤ fsum p l ∧ fsum p l < p := ⟨Int.emod_nonneg _ (by omega), Int.emod_lt_of_pos _ (by omega)⟩
theorem fsum_elem {p : Int} (hf : fieldB p = true) (l : List Int) : elemB p (fsum p l) = true := by
  obtain ⟨h1, h2⟩ := field_range hf
  obtain ⟨h3, h4⟩ := fsum_rng h1 l
  exact elemB_mk hf h3 h4
theorem femod_elem {p : Int} (hf : fieldB p = true) (x : Int) : elemB p (x % p) = true := by
  obtain ⟨h1, h2⟩ := field_range hf
  exact elemB_mk hf (Int.emod_nonneg _ (by omega)) (Int.emod_lt_of_pos _ (by omega))
set_option maxHeartbeats 400000 in
theorem specFSum_y (p : Int) (A : Option Addr) (n c : Nat) (zs : List Int) (w : World) (h : elemsB p zs = true) (hx : Ints w A n zs) (hn : n ≤ 4611686018427387903) :
    Calls Try.prog 73 #[.int .i64 p, .slice A n c] w fun e w' => e = .returned (.int .i64 (fsum p zs)) ∧ w = w' := by
  obtain ⟨hf, p2, p101, hz⟩ := elemsB_is h
  have HE := Lib.hid h
  have LX := Lib.hid hx.len
  have HX := Lib.hid hx
  clear h hf
  go_enter Try.func73, Try.ntmps73
  go_wp2_with fail
  refine (specl03All_c p A n c zs _ (by omega) HX.out hn).mono ?_
  rintro e w1 ⟨rfl, rfl⟩
  rw [HE.out]
  go_wp2_with fail
  go_loop [5, 6] (fun z i => ∃ k : Nat, k ≤ n ∧ i = .int .i64 k ∧ z = .int .i64 (fsum p (zs.take k))) (fun _ i => n - (intOf i).toNat)
  case atStart => exact ⟨0, Nat.zero_le _, rfl, by simp [fsum]⟩
  case round =>
    obtain ⟨k, hk, rfl, rfl⟩ := hrel
    obtain ⟨s0, s1⟩ := fsum_rng p2 (zs.take k)
    by_cases hlt : k < n
    · obtain ⟨b, o, rfl, hb, hc⟩ := HX.out.at_ (by omega)
      have c0 := hc k hlt
      have i1 : (k : Int) < (n : Int) := by omega
      have HS := Lib.hid (fsum_step (p := p) (l := zs) (k := k) (by have := LX.out; omega))
      have hzk := hz (zs.getD k 0) (by rw [getI zs k (by have := LX.out; omega)]; exact List.getElem_mem ..)
      obtain ⟨z0, z1⟩ := hzk
      generalize fsum p (zs.take k) = s at *
      generalize zs.getD k 0 = y at *
      clear hc hz
      go_wp2_with fail
      go_round
      case rel => exact ⟨k + 1, by omega, by go_num, by rw [← HS.out]⟩
      case measure => simp [intOf]; omega
    · have hkn : k = n := by omega
      subst hkn
      have HT : Hid (fsum p (zs.take k) = fsum p zs) := by unfold Hid; rw [List.take_of_length_le (by have := LX.out; omega)]
      generalize fsum p (zs.take k) = s at *
      go_wp2_with fail
      go_ret
      exact ⟨retI HT.out, rfl⟩
end Go.Proofs.Ythaadgdeadbhkaa
/-
  Shares of an element: 'append(list, FSub(p, x, FSum(p, list))), next' and who calls it.
-/
namespace Go.Proofs.Ythaadgdeadbhkaa
open Go.RowKit
set_option linter.unusedVariables false
set_option linter.unusedSimpArgs false
def lit1X (H : Nat) (e : TypeId) (cs : Array Value) (v : Value) (w : World) : Prop := ∃ g, v = .slice (some ⟨g, 0, none⟩) 1 1 ∧ H ≤ g ∧ Blk w g e cs
theorem lit1X_st {H : Nat} {e : TypeId} {cs : Array Value} : stable (lit1X H e cs) := fun v w w' ⟨g, h1, h2, h3⟩ hg => ⟨g, h1, h2, h3.grow hg⟩
theorem chgDr {S : Nat → Prop} {w w' : World} (h : Chg S w.drew w') : Chg S w w' := ⟨h.os, h.tape, h.output, h.size, h.block⟩
def shareL (p x : Int) (L : List Int) : List Int := L ++ [(x - fsum p L) % p]
theorem shareL_len (p x : Int) (L : List Int) : (shareL p x L).length = L.length + 1 := by simp [shareL]
theorem shareL_elems {p x : Int} {L : List Int} (h : elemsB p L = true) : elemsB p (shareL p x L) = true := by
  obtain ⟨hf, p2, p101, hz⟩ := elemsB_is h
  refine elemsB_mk hf fun a ha => ?_
  rcases List.mem_append.1 ha with ha | ha
  · exact hz a ha
  · have : a = (x - fsum p L) % p := by simpa using ha
    subst this
    exact ⟨Int.emod_nonneg _ (by omega), Int.emod_lt_of_pos _ (by omega)⟩
theorem shareL_sum {p x : Int} {L : List Int} (h0 : 0 ≤ x) (h1 : x < p) : fsum p (shareL p x L) = x := by
  unfold fsum shareL
  rw [List.sum_append]
  simp only [List.sum_cons, List.sum_nil, Int.add_zero]
  rw [Int.add_emod_emod, show fsum p L = L.sum % p from rfl, ← Int.add_sub_assoc, Int.sub_emod_emod, show L.sum + x - L.sum = x by omega]
  exact Int.emod_eq_of_lt h0 h1
theorem elems_tape {P s a k : Nat} (hf : fieldB (P : Int) = true) (h0 : 0 < P) : elemsB (P : Int) (tapeL s a P k) = true := elemsB_mk hf fun z hz => tapeL_rng h0 z hz
theorem specl06Tape_yes (s a : Nat) (w : World) (hs : s < 4294967296) (ha : a ≤ 900000) :
    Calls Try.prog 80 #[.agg #[.int .i64 s, .int .i64 a]] w fun e w' => e = .returned (.bool true) ∧ w.grownBy w' none := by
  have d1 := Lib.hid (tape_yes hs (show a ≤ 1000000 by omega))
  have d2 : decide ((a : Int) ≤ 900000) = true := by simp; omega
  go_enter Try.func80, Try.ntmps80
  go_wp2_with fail
  refine (specTapeOk_c s a _).mono ?_
  rintro e w1 ⟨rfl, g1⟩
  rw [d1.out]
  have B1 := Blk.grow (Blk.new w 31 #[.int .i64 s, .int .i64 a]) g1
  have c0 := B1.cell 0
  have c1 := B1.cell 1
  simp at c0 c1
  have G1 := Lib.hid (gbT (gbA (gbR w none) _) g1)
  clear g1 B1
  go_wp2_with fail
  go_ret
  exact ⟨rfl, G1.out⟩
end Go.Proofs.Ythaadgdeadbhkaa
/-
  The laws' helpers on Keys, by what it reads as (printed by wip/gen_sk.py).
-/
namespace Go.Proofs.Ythaadgdeadbhkaa
open Go.RowKit
set_option linter.unusedVariables false
set_option linter.unusedSimpArgs false
structure KM where
  p : Int
  al : List Int
abbrev ckeys (m : KM) : List CS := [ci m.p, cints m.al]
def KM.sz (m : KM) : Nat := m.al.length
def KM.wf (m : KM) : Prop := i64w m.p ∧ (∀ z ∈ m.al, i64w z)
theorem stKeys : St Try.prog 26 2 := ⟨⟨_, Try.underlying26, rfl⟩, by kernel_rfl⟩
theorem ckeys_open {w : World} {m : KM} {v : Value} (h : AggR w (ckeys m) v) : ∃ u1, v = .agg #[(.int .i64 m.p), u1] ∧ (cints m.al).rd w u1 := by
  obtain ⟨vs, rfl, h⟩ := h
  obtain ⟨u0, vs0, rfl, h0, h⟩ := RdAll.head h
  obtain ⟨u1, vs1, rfl, h1, h⟩ := RdAll.head h
  obtain rfl := RdAll.none h
  obtain rfl := ci_rd h0
  exact ⟨u1, rfl, h1⟩
theorem ckeys_mk {w : World} {m : KM} {u1 : Value} (h1 : (cints m.al).rd w u1) : AggR w (ckeys m) (.agg #[(.int .i64 m.p), u1]) := ⟨_, rfl, (RdAll.cons (ci_mk _ _) (RdAll.cons h1 (RdAll.nil _)))⟩
theorem ckeys_oform {w : World} {m : KM} {F : List Nat} {v : Value} (h : AggO w (ckeys m) F v) : ∃ (A1 : Option Addr) (n1 s1 : Nat), v = .agg #[(.int .i64 m.p), (.slice A1 n1 s1)] := by
  obtain ⟨vs, Fs, rfl, h, rfl⟩ := h
  obtain ⟨u0, vs0, F0, Fs0, rfl, rfl, h0, h, d0⟩ := OwnAll.head h
  obtain ⟨u1, vs1, F1, Fs1, rfl, rfl, h1, h, d1⟩ := OwnAll.head h
  obtain ⟨rfl, rfl⟩ := OwnAll.none h
  obtain ⟨rfl, rfl, _⟩ := h0
  obtain ⟨A1, n1, s1, rfl⟩ := row_form h1
  exact ⟨A1, n1, s1, rfl⟩
theorem ckeys_oopen {w : World} {m : KM} {F : List Nat} {v : Value} (h : AggO w (ckeys m) F v) : ∃ u1 F1, v = .agg #[(.int .i64 m.p), u1] ∧ F = [[], F1].flatten ∧ (cints m.al).own w F1 u1 := by
  obtain ⟨vs, Fs, rfl, h, rfl⟩ := h
  obtain ⟨u0, vs0, F0, Fs0, rfl, rfl, h0, h, d0⟩ := OwnAll.head h
  obtain ⟨u1, vs1, F1, Fs1, rfl, rfl, h1, h, d1⟩ := OwnAll.head h
  obtain ⟨rfl, rfl⟩ := OwnAll.none h
  obtain ⟨rfl, rfl, _⟩ := h0
  exact ⟨u1, F1, rfl, rfl, h1⟩
theorem ckeys_omk {w : World} {m : KM} {u1 : Value} {F1 : List Nat} (h1 : (cints m.al).own w F1 u1)  : AggO w (ckeys m) [[], F1].flatten (.agg #[(.int .i64 m.p), u1]) := ⟨_, _, rfl, (OwnAll.cons (ci_own _ _) (OwnAll.cons h1 (OwnAll.nil _) (fun g hg => by simp)) (by simp)), rfl⟩
end Go.Proofs.Ythaadgdeadbhkaa
/-
  The laws' helpers on Auth, by what it reads as (printed by wip/gen_sk.py).
-/
namespace Go.Proofs.Ythaadgdeadbhkaa
open Go.RowKit
set_option linter.unusedVariables false
set_option linter.unusedSimpArgs false
structure AuM where
  sh : List Int
  mc : List Int
abbrev cauth (m : AuM) : List CS := [cints m.sh, cints m.mc]
def AuM.sz (m : AuM) : Nat := m.sh.length + m.mc.length
def AuM.wf (m : AuM) : Prop := (∀ z ∈ m.sh, i64w z) ∧ (∀ z ∈ m.mc, i64w z)
theorem stAuth : St Try.prog 44 2 := ⟨⟨_, Try.underlying44, rfl⟩, by kernel_rfl⟩
theorem cauth_open {w : World} {m : AuM} {v : Value} (h : AggR w (cauth m) v) : ∃ u0 u1, v = .agg #[u0, u1] ∧ (cints m.sh).rd w u0 ∧ (cints m.mc).rd w u1 := by
  obtain ⟨vs, rfl, h⟩ := h
  obtain ⟨u0, vs0, rfl, h0, h⟩ := RdAll.head h
  obtain ⟨u1, vs1, rfl, h1, h⟩ := RdAll.head h
  obtain rfl := RdAll.none h
  exact ⟨u0, u1, rfl, h0, h1⟩
theorem cauth_mk {w : World} {m : AuM} {u0 u1 : Value} (h0 : (cints m.sh).rd w u0) (h1 : (cints m.mc).rd w u1) : AggR w (cauth m) (.agg #[u0, u1]) := ⟨_, rfl, (RdAll.cons h0 (RdAll.cons h1 (RdAll.nil _)))⟩
theorem cauth_oform {w : World} {m : AuM} {F : List Nat} {v : Value} (h : AggO w (cauth m) F v) : ∃ (A0 : Option Addr) (n0 s0 : Nat) (A1 : Option Addr) (n1 s1 : Nat), v = .agg #[(.slice A0 n0 s0), (.slice A1 n1 s1)] := by
  obtain ⟨vs, Fs, rfl, h, rfl⟩ := h
  obtain ⟨u0, vs0, F0, Fs0, rfl, rfl, h0, h, d0⟩ := OwnAll.head h
  obtain ⟨u1, vs1, F1, Fs1, rfl, rfl, h1, h, d1⟩ := OwnAll.head h
  obtain ⟨rfl, rfl⟩ := OwnAll.none h
  obtain ⟨A0, n0, s0, rfl⟩ := row_form h0
  obtain ⟨A1, n1, s1, rfl⟩ := row_form h1
  exact ⟨A0, n0, s0, A1, n1, s1, rfl⟩
theorem cauth_oopen {w : World} {m : AuM} {F : List Nat} {v : Value} (h : AggO w (cauth m) F v) : ∃ u0 u1 F0 F1, v = .agg #[u0, u1] ∧ F = [F0, F1].flatten ∧ (cints m.sh).own w F0 u0 ∧ (cints m.mc).own w F1 u1 ∧ (∀ g ∈ F0, g ∉ F1) := by
  obtain ⟨vs, Fs, rfl, h, rfl⟩ := h
  obtain ⟨u0, vs0, F0, Fs0, rfl, rfl, h0, h, d0⟩ := OwnAll.head h
  obtain ⟨u1, vs1, F1, Fs1, rfl, rfl, h1, h, d1⟩ := OwnAll.head h
  obtain ⟨rfl, rfl⟩ := OwnAll.none h
  exact ⟨u0, u1, F0, F1, rfl, rfl, h0, h1, fun g hg hg' => d0 g hg (by simp [hg'])⟩
theorem cauth_omk {w : World} {m : AuM} {u0 u1 : Value} {F0 F1 : List Nat} (h0 : (cints m.sh).own w F0 u0) (h1 : (cints m.mc).own w F1 u1) (d01 : ∀ g ∈ F0, g ∉ F1) : AggO w (cauth m) [F0, F1].flatten (.agg #[u0, u1]) := ⟨_, _, rfl, (OwnAll.cons h0 (OwnAll.cons h1 (OwnAll.nil _) (fun g hg => by simp)) (fun g hg => by simp [d01 g hg])), rfl⟩
end Go.Proofs.Ythaadgdeadbhkaa
/-
  Keys and authenticated values: their form, by what they read xs.
-/
namespace Go.Proofs.Ythaadgdeadbhkaa
open Go.RowKit
set_option linter.unusedVariables false
set_option linter.unusedSimpArgs false
def kwf (k : KM) : Prop := i64w k.p ∧ k.al.length ≤ 1048576
def awf (a : AuM) : Prop := a.sh.length ≤ 1048576 ∧ a.mc.length ≤ 1048576
def keysB (k : KM) : Bool := elemsB k.p k.al && inQ k.al.length 1 5
def formA (k : KM) (a : AuM) : Bool := ((a.sh.length : Int) == (k.al.length : Int)) && ((a.mc.length : Int) == (k.al.length : Int)) && elemsB k.p a.sh && elemsB k.p a.mc
def formB (k : KM) (a : AuM) : Bool := keysB k && formA k a
theorem ckeys_sl {w : World} {k : KM} {v : Value} (h : AggR w (ckeys k) v) : ∃ A c, v = .agg #[.int .i64 k.p, .slice A k.al.length c] ∧ k.al.length ≤ c ∧ c ≤ maxLen ∧ Ints w A k.al.length k.al := by
  obtain ⟨u1, rfl, h1⟩ := ckeys_open h
  obtain ⟨A, c, rfl, h2, h3, h4⟩ := cints_rd h1
  exact ⟨A, c, rfl, h2, h3, h4⟩
theorem cauth_sl {w : World} {a : AuM} {v : Value} (h : AggR w (cauth a) v) : ∃ A c B d, v = .agg #[.slice A a.sh.length c, .slice B a.mc.length d] ∧ a.sh.length ≤ c ∧ c ≤ maxLen ∧ a.mc.length ≤ d ∧ d ≤ maxLen ∧ Ints w A a.sh.length a.sh ∧ Ints w B a.mc.length a.mc := by
  obtain ⟨u0, u1, rfl, h0, h1⟩ := cauth_open h
  obtain ⟨A, c, rfl, h2, h3, h4⟩ := cints_rd h0
  obtain ⟨B, d, rfl, k2, k3, k4⟩ := cints_rd h1
  exact ⟨A, c, B, d, rfl, h2, h3, k2, k3, h4, k4⟩
set_option maxHeartbeats 400000 in
theorem specKeysOk_c (k : KM) (v : Value) (w : World) (h : AggR w (ckeys k) v) (wp : kwf k) :
    Calls Try.prog 58 #[v] w fun e w' => e = .returned (.bool (keysB k)) ∧ w.grownBy w' none := by
  obtain ⟨A, c, rfl, hc, hm, hI⟩ := ckeys_sl h
  obtain ⟨⟨wp1, wp2⟩, wl⟩ := wp
  unfold maxLen at hm
  have HI := Lib.hid (hI.grow (gbA (gbR w none) (.cells #[.int .i64 k.p, .slice A k.al.length c] 26)))
  have HK : Hid (keysB k = (elemsB k.p k.al && inQ k.al.length 1 5)) := rfl
  generalize k.al = al at *
  generalize k.p = p at *
  generalize hn : al.length = n at *
  clear h hI hn
  cases h1 : elemsB p al <;> cases h2 : inQ (n : Int) 1 5
  all_goals
    rw [h1, h2] at HK
    go_enter Try.func58, Try.ntmps58
    go_wp2_with (first | (go_at_call 92; refine (specInq_c n 1 5 _).mono ?_; rintro e w1 ⟨rfl, rfl⟩; rw [h2]) | (go_at_call 79; refine (specl03All_c p A n c al _ (by omega) HI.out (by omega)).mono ?_; rintro e w1 ⟨rfl, rfl⟩; rw [h1]))
    go_ret
    exact ⟨retB (by rw [HK.out]; rfl), gbA (gbR _ _) _⟩
set_option maxHeartbeats 1000000 in
theorem specl23Form_c (k : KM) (a : AuM) (v u : Value) (w : World) (h : AggR w (ckeys k) v) (ha : AggR w (cauth a) u) (wp : kwf k) (wa : awf a) :
    Calls Try.prog 72 #[v, u] w fun e w' => e = .returned (.bool (formB k a)) ∧ w.grownBy w' none := by
  obtain ⟨A, c, rfl, hc, hm, hI⟩ := ckeys_sl h
  obtain ⟨B, d, C, f, rfl, _, _, _, _, hS, hM⟩ := cauth_sl ha
  obtain ⟨wa1, wa2⟩ := wa
  have hp := wp.1
  obtain ⟨wp1, wp2⟩ := hp
  have G0 := Lib.hid (gbA (gbA (gbR w none) (.cells #[.int .i64 k.p, .slice A k.al.length c] 26)) (.cells #[.slice B a.sh.length d, .slice C a.mc.length f] 44))
  have HK := Lib.hid (AggR.grow h G0.out)
  have HS := Lib.hid (hS.grow G0.out)
  have HM := Lib.hid (hM.grow G0.out)
  have B0 := Lib.hid ((Blk.new w 26 #[.int .i64 k.p, .slice A k.al.length c]).grow (gbA (gbR _ _) (.cells #[.slice B a.sh.length d, .slice C a.mc.length f] 44)))
  have B1 := Lib.hid (Blk.new' (w.alloc (.cells #[.int .i64 k.p, .slice A k.al.length c] 26)) 44 #[.slice B a.sh.length d, .slice C a.mc.length f] (w.heap.size + 1) (by simp))
  have WP := Lib.hid wp
  have HF : Hid (formB k a = (keysB k && (((a.sh.length : Int) == (k.al.length : Int)) && ((a.mc.length : Int) == (k.al.length : Int)) && elemsB k.p a.sh && elemsB k.p a.mc))) := rfl
  clear h ha hI hS hM wp
  go_enter Try.func72, Try.ntmps72
  go_wp2_with fail
  refine (specKeysOk_c k _ _ HK.out WP.out).mono ?_
  rintro e w1 ⟨rfl, g1⟩
  have S1 := Lib.hid (HS.out.grow g1)
  have M1 := Lib.hid (HM.out.grow g1)
  have c0 := (B0.out.grow g1).cell 0
  have c1 := (B0.out.grow g1).cell 1
  have d0 := (B1.out.grow g1).cell 0
  have d1 := (B1.out.grow g1).cell 1
  simp at c0 c1 d0 d1
  have G1 := Lib.hid (gbT G0.out g1)
  clear g1 HS HM HK B0 B1
  cases b0 : keysB k
  · rw [b0] at HF
    go_wp2_with fail
    go_ret
    exact ⟨retB (by rw [HF.out]; rfl), G1.out⟩
  cases b1 : ((a.sh.length : Int) == (k.al.length : Int))
  · rw [b0, b1] at HF
    go_wp2_with fail
    go_ret
    exact ⟨retB (by rw [HF.out]; rfl), G1.out⟩
  cases b2 : ((a.mc.length : Int) == (k.al.length : Int))
  · rw [b0, b1, b2] at HF
    go_wp2_with fail
    go_ret
    exact ⟨retB (by rw [HF.out]; rfl), G1.out⟩
  go_wp2_with fail
  refine (specl03All_c k.p B a.sh.length d a.sh _ (by omega) S1.out (by omega)).mono ?_
  rintro e w2 ⟨rfl, rfl⟩
  cases b3 : elemsB k.p a.sh
  · rw [b0, b1, b2, b3] at HF
    go_wp2_with fail
    go_ret
    exact ⟨retB (by rw [HF.out]; rfl), G1.out⟩
  go_wp2_with fail
  refine (specl03All_c k.p C a.mc.length f a.mc _ (by omega) M1.out (by omega)).mono ?_
  rintro e w2 ⟨rfl, rfl⟩
  rw [b0, b1, b2, b3] at HF
  go_wp2_with fail
  go_ret
  exact ⟨retB (by rw [HF.out]; rfl), G1.out⟩
abbrev cauths (xs : List AuM) : CS := lst 44 2 cauth xs
theorem cauths_at {w : World} {xs : List AuM} {A : Option Addr} {n c : Nat} (h : (cauths xs).rd w (.slice A n c)) {k : Nat} (hk : k < n) :
    ∃ (b o : Nat) (x : AuM) (B : Option Addr) (d : Nat) (C : Option Addr) (f : Nat), A = some ⟨b, o, none⟩ ∧ b < w.heap.size ∧ xs[k]? = some x ∧ w.cell? ⟨b, o + k * 2, none⟩ = some (.slice B x.sh.length d) ∧ w.cell? ⟨b, o + k * 2 + 1, none⟩ = some (.slice C x.mc.length f) ∧ AggR w (cauth x) (.agg #[.slice B x.sh.length d, .slice C x.mc.length f]) := by
  obtain ⟨b, o, x, rfl, hb, hx, hc⟩ := lst_at (s := 2) (fun _ => rfl) (by omega) h hk
  obtain ⟨u0, q0, r0⟩ := hc 0 (cints x.sh) rfl
  obtain ⟨u1, q1, r1⟩ := hc 1 (cints x.mc) rfl
  obtain ⟨B, d, rfl, k1, k2, k3⟩ := cints_rd r0
  obtain ⟨C, f, rfl, k4, k5, k6⟩ := cints_rd r1
  exact ⟨b, o, x, B, d, C, f, rfl, hb, hx, by simpa using q0, by rw [Nat.add_assoc]; exact q1, cauth_mk r0 r1⟩
end Go.Proofs.Ythaadgdeadbhkaa
/-
  The laws' helpers on Arith, by what it reads as (printed by wip/gen_sk.py).
-/
namespace Go.Proofs.Ythaadgdeadbhkaa
open Go.RowKit
set_option linter.unusedVariables false
set_option linter.unusedSimpArgs false
structure AM where
  p : Int
  st : List (Int × Int × Int)
  outs : List Int
abbrev carith (m : AM) : List CS := [ci m.p, csteps m.st, cints m.outs]
def AM.sz (m : AM) : Nat := m.st.length + m.outs.length
def AM.wf (m : AM) : Prop := i64w m.p ∧ (∀ z ∈ m.st, w3 z) ∧ (∀ z ∈ m.outs, i64w z)
theorem stArith : St Try.prog 29 3 := ⟨⟨_, Try.underlying29, rfl⟩, by kernel_rfl⟩
theorem carith_open {w : World} {m : AM} {v : Value} (h : AggR w (carith m) v) : ∃ u1 u2, v = .agg #[(.int .i64 m.p), u1, u2] ∧ (csteps m.st).rd w u1 ∧ (cints m.outs).rd w u2 := by
  obtain ⟨vs, rfl, h⟩ := h
  obtain ⟨u0, vs0, rfl, h0, h⟩ := RdAll.head h
  obtain ⟨u1, vs1, rfl, h1, h⟩ := RdAll.head h
  obtain ⟨u2, vs2, rfl, h2, h⟩ := RdAll.head h
  obtain rfl := RdAll.none h
  obtain rfl := ci_rd h0
  exact ⟨u1, u2, rfl, h1, h2⟩
theorem carith_mk {w : World} {m : AM} {u1 u2 : Value} (h1 : (csteps m.st).rd w u1) (h2 : (cints m.outs).rd w u2) : AggR w (carith m) (.agg #[(.int .i64 m.p), u1, u2]) := ⟨_, rfl, (RdAll.cons (ci_mk _ _) (RdAll.cons h1 (RdAll.cons h2 (RdAll.nil _))))⟩
theorem carith_oform {w : World} {m : AM} {F : List Nat} {v : Value} (h : AggO w (carith m) F v) : ∃ (A1 : Option Addr) (n1 s1 : Nat) (A2 : Option Addr) (n2 s2 : Nat), v = .agg #[(.int .i64 m.p), (.slice A1 n1 s1), (.slice A2 n2 s2)] := by
  obtain ⟨vs, Fs, rfl, h, rfl⟩ := h
  obtain ⟨u0, vs0, F0, Fs0, rfl, rfl, h0, h, d0⟩ := OwnAll.head h
  obtain ⟨u1, vs1, F1, Fs1, rfl, rfl, h1, h, d1⟩ := OwnAll.head h
  obtain ⟨u2, vs2, F2, Fs2, rfl, rfl, h2, h, d2⟩ := OwnAll.head h
  obtain ⟨rfl, rfl⟩ := OwnAll.none h
  obtain ⟨rfl, rfl, _⟩ := h0
  obtain ⟨A1, n1, s1, rfl⟩ := row_form h1
  obtain ⟨A2, n2, s2, rfl⟩ := row_form h2
  exact ⟨A1, n1, s1, A2, n2, s2, rfl⟩
theorem carith_oopen {w : World} {m : AM} {F : List Nat} {v : Value} (h : AggO w (carith m) F v) : ∃ u1 u2 F1 F2, v = .agg #[(.int .i64 m.p), u1, u2] ∧ F = [[], F1, F2].flatten ∧ (csteps m.st).own w F1 u1 ∧ (cints m.outs).own w F2 u2 ∧ (∀ g ∈ F1, g ∉ F2) := by
  obtain ⟨vs, Fs, rfl, h, rfl⟩ := h
  obtain ⟨u0, vs0, F0, Fs0, rfl, rfl, h0, h, d0⟩ := OwnAll.head h
  obtain ⟨u1, vs1, F1, Fs1, rfl, rfl, h1, h, d1⟩ := OwnAll.head h
  obtain ⟨u2, vs2, F2, Fs2, rfl, rfl, h2, h, d2⟩ := OwnAll.head h
  obtain ⟨rfl, rfl⟩ := OwnAll.none h
  obtain ⟨rfl, rfl, _⟩ := h0
  exact ⟨u1, u2, F1, F2, rfl, rfl, h1, h2, fun g hg hg' => d1 g hg (by simp [hg'])⟩
theorem carith_omk {w : World} {m : AM} {u1 u2 : Value} {F1 F2 : List Nat} (h1 : (csteps m.st).own w F1 u1) (h2 : (cints m.outs).own w F2 u2) (d12 : ∀ g ∈ F1, g ∉ F2) : AggO w (carith m) [[], F1, F2].flatten (.agg #[(.int .i64 m.p), u1, u2]) := ⟨_, _, rfl, (OwnAll.cons (ci_own _ _) (OwnAll.cons h1 (OwnAll.cons h2 (OwnAll.nil _) (fun g hg => by simp)) (fun g hg => by simp [d12 g hg])) (by simp)), rfl⟩
end Go.Proofs.Ythaadgdeadbhkaa
/-
  CountMuls: reference and program; its exact law.
-/
namespace Go.Proofs.Ythaadgdeadbhkaa
open Go.RowKit
set_option linter.unusedVariables false
set_option linter.unusedSimpArgs false
abbrev Stp := Int × Int × Int
def muls (st : List Stp) (k : Nat) : Nat := (st.take k).countP (·.1 == 4)
theorem muls_zero (st : List Stp) : muls st 0 = 0 := by simp [muls]
theorem muls_succ (st : List Stp) (k : Nat) (x : Stp) (h : st[k]? = some x) : muls st (k + 1) = muls st k + if x.1 == 4 then 1 else 0 := by
  unfold muls
  obtain ⟨hk, rfl⟩ := List.getElem?_eq_some_iff.1 h
  rw [List.take_succ_eq_append_getElem hk, List.countP_append, List.countP_singleton]
theorem muls_le (st : List Stp) (k : Nat) : muls st k ≤ k := Nat.le_trans List.countP_le_length (by rw [List.length_take]; omega)
theorem steps_at {w : World} {A : Option Addr} {n : Nat} {st : List Stp} (h : FL c3 3 w A n st) {k : Nat} (hk : k < n) :
    ∃ (b o : Nat) (x y z : Int), A = some ⟨b, o, none⟩ ∧ b < w.heap.size ∧ st[k]? = some (x, y, z) ∧ w.cell? ⟨b, o + k * 3, none⟩ = some (.int .i64 x) ∧ w.cell? ⟨b, o + k * 3 + 1, none⟩ = some (.int .i64 y) ∧ w.cell? ⟨b, o + k * 3 + 2, none⟩ = some (.int .i64 z) := by
  obtain ⟨b, o, t, rfl, hb, hx, hc⟩ := h.cell c3_len hk (by omega)
  obtain ⟨x, y, z⟩ := t
  have c0 := hc 0 (by omega)
  have c1 := hc 1 (by omega)
  have c2 := hc 2 (by omega)
  simp only [c3, Nat.add_zero, ← Nat.add_assoc, List.getElem?_cons_zero, List.getElem?_cons_succ] at c0 c1 c2
  exact ⟨b, o, x, y, z, rfl, hb, hx, c0, c1, c2⟩
set_option maxHeartbeats 400000 in
theorem implCountMuls_c (m : AM) (v : Value) (w : World) (h : AggR w (carith m) v) :
    Calls Try.prog 77 #[v] w fun e w' => e = .returned (.int .i64 (muls m.st m.st.length)) ∧ w.grownBy w' none := by
  obtain ⟨u1, u2, rfl, h1, h2⟩ := carith_open h
  obtain ⟨A, c, rfl, hc, hm, hF⟩ := plst_rd (s := 3) (fun _ => rfl) (by omega) h1
  clear h h1 h2
  unfold maxLen at hm
  generalize m.st = st at *
  generalize hn : st.length = n at *
  clear hn
  have HF := Lib.hid hF
  have A1 := Lib.hid (Blk.new w 29 #[.int .i64 m.p, .slice A n c, u2])
  have G1 := Lib.hid (gbA (gbR w none) (.cells #[.int .i64 m.p, .slice A n c, u2] 29))
  clear hF
  go_enter Try.func77, Try.ntmps77
  go_wp2_with fail
  go_loopw [3, 9] (fun s i wr => ∃ k : Nat, k ≤ n ∧ i = .int .i64 k ∧ s = .int .i64 (muls st k) ∧ Hid (Blk wr w.heap.size 29 #[.int .i64 m.p, .slice A n c, u2]) ∧ Hid (w.grownBy wr none)) (fun _ i _ => n - (intOf i).toNat)
  case atStart => exact ⟨0, Nat.zero_le _, rfl, by rw [muls_zero]; rfl, A1.out, G1.out⟩
  case round =>
    clear A1 G1
    obtain ⟨k, hk, rfl, rfl, hB, hG⟩ := hrel
    have c1 := hB.out.cell 1
    simp at c1
    have hmk := muls_le st k
    by_cases hlt : k < n
    · obtain ⟨b, o, x, y, z, rfl, hb, hx, q0, q1, q2⟩ := steps_at (FL.grow HF.out hG.out) hlt
      have HS := Lib.hid (muls_succ st k _ hx)
      have i1 : (k : Int) < (n : Int) := by omega
      generalize muls st k = q at *
      clear hx
      by_cases h4 : x = 4
      · subst h4
        go_wp2_with fail
        go_roundw
        case rel => exact ⟨k + 1, by omega, by go_num, by rw [HS.out]; go_num, hB.out.grow (gbA (gbR _ _) _), gbA hG.out _⟩
        case measure => simp [intOf]; omega
      · have d4 : (x == 4) = false := by simp [h4]
        have HD := Lib.hid d4
        go_wp2_with fail
        go_roundw
        case rel => exact ⟨k + 1, by omega, by go_num, by rw [HS.out, HD.out]; rfl, hB.out.grow (gbA (gbR _ _) _), gbA hG.out _⟩
        case measure => simp [intOf]; omega
    · have hkn : k = n := by omega
      subst hkn
      go_wp2_with fail
      go_ret
      exact ⟨rfl, hG.out⟩
end Go.Proofs.Ythaadgdeadbhkaa
