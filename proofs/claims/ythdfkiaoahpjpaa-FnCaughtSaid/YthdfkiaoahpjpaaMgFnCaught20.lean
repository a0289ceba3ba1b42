/-
  EvalArith: reference and program.
-/
import Derived.Test.YthdfkiaoahpjpaaMgFnCaught19
import Derived.Test.YthdfkiaoahpjpaaMgFnCaught17
namespace Go.Proofs.Ythdfkiaoahpjpaa
open Go.RowKit
set_option linter.unusedVariables false
set_option linter.unusedSimpArgs false
def evD (p : Int) (ins l : List Int) (s : Stp) : Int :=
  if s.1 = 1 then ins.getD s.2.1.toNat 0 else if s.1 = 3 then (l.getD s.2.1.toNat 0 + l.getD s.2.2.toNat 0) % p else if s.1 = 4 then (l.getD s.2.1.toNat 0 * l.getD s.2.2.toNat 0) % p else s.2.1
def evS (m : AM) (ins : List Int) : Nat → List Int
  | 0 => []
  | k + 1 => evS m ins k ++ [evD m.p ins (evS m ins k) (stAt m k)]
structure EvOk (m : AM) (ins : List Int) : Prop where
  ok : AOk m
  len : ins.length = 60
  el : elemsB m.p ins = true
open Classical in
noncomputable def evB (m : AM) (ins : List Int) : Bool := decide (EvOk m ins)
theorem evB_no {m : AM} {ins : List Int} (h : ¬ EvOk m ins) : evB m ins = false := by simp [evB, h]
def evOut (m : AM) (ins : List Int) (k : Nat) : List Int := (m.outs.take k).map fun o => (evS m ins m.st.length).getD o.toNat 0
open Classical in
noncomputable def evR (m : AM) (ins : List Int) : List Int := if EvOk m ins then evOut m ins m.outs.length else []
theorem evR_no {m : AM} {ins : List Int} (h : ¬ EvOk m ins) : evR m ins = [] := by simp [evR, h]
def EvJ (m : AM) (ins : List Int) (w : World) (e : Ending) (w' : World) : Prop := ∃ V, e = .returned (.tuple #[V, .bool (evB m ins)]) ∧ w'.ownsRow w.heap.size 3 1 V (evR m ins).length ((evR m ins).map (Value.int .i64)) ∧ w.grownBy w' none
theorem EvJ.no {m : AM} {ins : List Int} {w w' : World} {V : Value} (h : ¬ EvOk m ins) (ho : w'.ownsRow w.heap.size 3 1 V 0 []) (hg : w.grownBy w' none) : EvJ m ins w (.returned (.tuple #[V, .bool false])) w' := ⟨V, by rw [evB_no h], by rw [evR_no h]; exact ho, hg⟩
theorem EvJ.own {m : AM} {ins : List Int} {w w' : World} {e : Ending} (h : EvJ m ins w e w') : ∃ V F, e = .returned (.tuple #[V, .bool (evB m ins)]) ∧ (cints (evR m ins)).own w' F V ∧ (∀ g ∈ F, w.heap.size ≤ g) ∧ w.grownBy w' none := by
  obtain ⟨V, h1, h2, h3⟩ := h
  exact ⟨V, _, h1, cints_own h2, fun g hg => (h2.lt g (by simpa using hg)).1, h3⟩
end Go.Proofs.Ythdfkiaoahpjpaa
/-
  EvalArith of the program.
-/
namespace Go.Proofs.Ythdfkiaoahpjpaa
open Go.RowKit
set_option linter.unusedVariables false
set_option linter.unusedSimpArgs false
end Go.Proofs.Ythdfkiaoahpjpaa
/-
  l29Same, same, ints: comparing and copying lists of numbers.
-/
namespace Go.Proofs.Ythdfkiaoahpjpaa
open Go.RowKit
set_option linter.unusedVariables false
set_option linter.unusedSimpArgs false
set_option maxHeartbeats 400000 in
theorem same_c (A B : Option Addr) (n m c d : Nat) (xs ys : List Int) (w : World) (hx : Ints w A n xs) (hy : Ints w B m ys) (hn : n ≤ 4611686018427387903) (hm : m ≤ 4611686018427387903) :
    Calls Try.prog 111 #[.slice A n c, .slice B m d] w fun e w' => e = .returned (.bool (xs == ys)) ∧ ∃ q, w' = w.drewN q := by
  have lx := hx.len
  have ly := hy.len
  by_cases hnm : n = m
  · subst hnm
    have hd : ((n : Int) != (n : Int)) = false := by simp
    have LX := Lib.hid lx
    have LY := Lib.hid ly
    clear lx ly
    go_enter Try.func111, Try.ntmps111
    go_wp2_with fail
    go_loopw [13] (fun i w1 => ∃ k q : Nat, k ≤ n ∧ i = .int .i64 k ∧ w1 = w.drewN q ∧ Hid (xs.take k = ys.take k)) (fun i _ => n - (intOf i).toNat)
    case atStart => exact ⟨0, 0, Nat.zero_le _, rfl, rfl, by simp [Hid]⟩
    case round =>
      obtain ⟨k, q, hk, rfl, rfl, heq⟩ := hrel
      by_cases hlt : k < n
      · obtain ⟨b, o, rfl, hb, hc⟩ := hx.at_ (by omega)
        obtain ⟨b', o', rfl, hb', hc'⟩ := hy.at_ (by omega)
        have c1 := hc k hlt
        have c2 := hc' k hlt
        clear hc hc'
        have i1 : (k : Int) < (n : Int) := by omega
        go_wp2_with fail
        go_quiet (fail)
        go_wp2_with fail
        · have hne : (xs[k]?.getD 0 != ys[k]?.getD 0) = true := by assumption
          go_ret
          have h1 := LX.out; have h2 := LY.out
          have := ne_of_at xs ys 0 k (by simpa using hne)
          exact ⟨by simp [this], _, dN ..⟩
        · have hne : (xs[k]?.getD 0 != ys[k]?.getD 0) = false := by assumption
          go_roundw
          case rel =>
            have h1 := LX.out; have h2 := LY.out
            exact ⟨k + 1, _, by omega, by go_num, rfl, take_eq_succ xs ys 0 k (by omega) (by omega) heq.out (by simpa using hne)⟩
          case measure => simp [intOf]; omega
      · have hkn : k = n := by omega
        subst hkn
        go_wp2_with fail
        go_ret
        have h1 := LX.out; have h2 := LY.out
        exact ⟨by simp [eq_of_take xs ys k h1 h2 heq.out], _, rfl⟩
  · have hd : ((n : Int) != (m : Int)) = true := by simp; omega
    go_enter Try.func111, Try.ntmps111
    go_wp2_with fail
    go_ret
    have : ¬ xs = ys := by rintro rfl; omega
    exact ⟨by simp [this], 0, rfl⟩
theorem ints_one (zs : List Int) : ∀ u ∈ zs.map (Value.int .i64), u.oneCell' = true := by
  intro u hu
  obtain ⟨z, _, rfl⟩ := List.mem_map.1 hu
  rfl
theorem ints_c (A : Option Addr) (n c : Nat) (zs : List Int) (w : World) (hx : Ints w A n zs) (hn : n ≤ 1099511627776) :
    Calls Try.prog 90 #[.slice A n c] w fun e w' => ∃ v, e = .returned v ∧ w'.ownsRow w.heap.size 3 1 v n (zs.map (Value.int .i64)) ∧ w.grownBy w' none := by
  have hr := World.ownsRow_made (e := 3) (size := 1) w #[] 0 (Nat.le_refl _) (by simp) rfl
  go_enter Try.func90, Try.ntmps90
  go_wp2_with (at_builtin; refine wp_appendS _ el_int rfl (.tmp 3) (.tmp 4) rfl w.heap.size _ 0 [] hr rfl A n c _ rfl (hx.grow (gbA (gbR w none) _)) (ints_one zs) (by unfold maxLen; omega) (by omega) (by simp) ?_; intro v' w1 hown1 hgrow)
  go_ret
  exact ⟨v', rfl, by simpa using hown1, gbN (gbA (gbR w none) _) hgrow fun g e => Nat.le_of_eq (show w.heap.size = g by simpa [Value.ownBlock] using e)⟩
end Go.Proofs.Ythdfkiaoahpjpaa
/-
  AddShares, ScaleShares, AddConstant: reference and program, on elements.
-/
namespace Go.Proofs.Ythdfkiaoahpjpaa
open Go.RowKit
set_option linter.unusedVariables false
set_option linter.unusedSimpArgs false
end Go.Proofs.Ythdfkiaoahpjpaa
/-
  AuthAdd, AuthScale: reference and program.
-/
namespace Go.Proofs.Ythdfkiaoahpjpaa
open Go.RowKit
set_option linter.unusedVariables false
set_option linter.unusedSimpArgs false
def row1 (lo n : Nat) (L : List Int) (v : Value) (w : World) : Prop := ∃ A c, v = .slice A n c ∧ w.ownsRow lo 3 1 v n (L.map (Value.int .i64))
def row2 (lo n m : Nat) (L M : List Int) (v u : Value) (w : World) : Prop := row1 lo n L v w ∧ row1 lo m M u w ∧ ∀ g, v.ownBlock = some g → u.ownBlock ≠ some g
theorem row1.grow {lo n : Nat} {L : List Int} {v : Value} {w w' : World} (h : row1 lo n L v w) (hg : w.grownBy w' none) : row1 lo n L v w' := by
  obtain ⟨A, c, h1, h2⟩ := h
  exact ⟨A, c, h1, own_grow h2 hg⟩
theorem row1.of {lo n : Nat} {L : List Int} {v : Value} {w : World} (h : w.ownsRow lo 3 1 v n (L.map (Value.int .i64))) : row1 lo n L v w := by
  obtain ⟨A, c, e, _⟩ := own_form h
  exact ⟨A, c, e, h⟩
theorem row2.of {lo n m : Nat} {L M : List Int} {v u : Value} {w w' : World} (h : row1 lo n L v w) (hg : w.grownBy w' none) (hl : lo ≤ w.heap.size) (k : w'.ownsRow w.heap.size 3 1 u m (M.map (Value.int .i64))) : row2 lo n m L M v u w' := by
  refine ⟨h.grow hg, row1.of (own_base k hl), fun g hg' hu => ?_⟩
  obtain ⟨A, c, _, h2⟩ := h
  have h3 := (h2.lt g hg').2
  have h4 := (k.lt g hu).1
  omega
theorem row2.agg {lo n m : Nat} {L M : List Int} {v u : Value} {w : World} (h : row2 lo n m L M v u w) : ∃ F, AggO w (cauth ⟨L, M⟩) F (.agg #[v, u]) ∧ ∀ g ∈ F, lo ≤ g := by
  obtain ⟨⟨A, c, h1, h2⟩, ⟨B, d, k1, k2⟩, h3⟩ := h
  have o1 := cints_own h2
  have o2 := cints_own k2
  refine ⟨_, cauth_omk (m := ⟨L, M⟩) o1 o2 (fun g hg hg' => h3 g (by simpa using hg) (by simpa using hg')), fun g hg => ?_⟩
  simp at hg
  rcases hg with hg | hg
  · exact (h2.lt g hg).1
  · exact (k2.lt g hg).1
def autF (lo : Nat) (m : AuM) (v : Value) (w : World) : Prop := ∃ F, AggO w (cauth m) F v ∧ ∀ g ∈ F, lo ≤ g
theorem autF.grow {lo : Nat} {m : AuM} {v : Value} {w w' : World} (h : autF lo m v w) (hg : w.grownBy w' none) : autF lo m v w' := by
  obtain ⟨F, h1, h2⟩ := h
  exact ⟨F, h1.grow hg, h2⟩
theorem autF.chg {lo g : Nat} {m : AuM} {v : Value} {w w' : World} (h : autF lo m v w) (k : Chg (fun y => y = g) w w') (hg : g < lo) : autF lo m v w' := by
  obtain ⟨F, h1, h2⟩ := h
  exact ⟨F, h1.chg k (fun x hx (e : x = g) => by have := h2 x hx; omega), h2⟩
theorem autF.lo {lo lo' : Nat} {m : AuM} {v : Value} {w : World} (h : autF lo m v w) (hl : lo' ≤ lo) : autF lo' m v w := by
  obtain ⟨F, h1, h2⟩ := h
  exact ⟨F, h1, fun g hg => Nat.le_trans hl (h2 g hg)⟩
end Go.Proofs.Ythdfkiaoahpjpaa
/-
  AuthScale, AuthConst: reference and program.
-/
namespace Go.Proofs.Ythdfkiaoahpjpaa
open Go.RowKit
set_option linter.unusedVariables false
set_option linter.unusedSimpArgs false
end Go.Proofs.Ythdfkiaoahpjpaa
/-
  MacCheck: reference and program; the sum of keys.
-/
namespace Go.Proofs.Ythdfkiaoahpjpaa
open Go.RowKit
set_option linter.unusedVariables false
set_option linter.unusedSimpArgs false
end Go.Proofs.Ythdfkiaoahpjpaa
/-
  shared: shares of an element (the program's own helper).
-/
namespace Go.Proofs.Ythdfkiaoahpjpaa
open Go.RowKit
set_option linter.unusedVariables false
set_option linter.unusedSimpArgs false
end Go.Proofs.Ythdfkiaoahpjpaa
/-
  AuthNew of the program.
-/
namespace Go.Proofs.Ythdfkiaoahpjpaa
open Go.RowKit
set_option linter.unusedVariables false
set_option linter.unusedSimpArgs false
end Go.Proofs.Ythdfkiaoahpjpaa
/-
  minus, valueIn, copyAuth: the program's helpers.
-/
namespace Go.Proofs.Ythdfkiaoahpjpaa
open Go.RowKit
set_option linter.unusedVariables false
set_option linter.unusedSimpArgs false
theorem autF.rd {lo : Nat} {m : AuM} {v : Value} {w : World} (h : autF lo m v w) : AggR w (cauth m) v := by
  obtain ⟨F, h1, _⟩ := h
  exact AggO.rd h1
end Go.Proofs.Ythdfkiaoahpjpaa
/-
  Triples: what they read as; TripleUse of the program.
-/
namespace Go.Proofs.Ythdfkiaoahpjpaa
open Go.RowKit
set_option linter.unusedVariables false
set_option linter.unusedSimpArgs false
end Go.Proofs.Ythdfkiaoahpjpaa
