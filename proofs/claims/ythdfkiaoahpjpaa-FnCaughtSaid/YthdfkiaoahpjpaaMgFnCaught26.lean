/-
  CountGates, GarbledCost: reference and program.
-/
import Derived.Test.YthdfkiaoahpjpaaMgFnCaught25
namespace Go.Proofs.Ythdfkiaoahpjpaa
open Go.RowKit
set_option linter.unusedVariables false
set_option linter.unusedSimpArgs false
def gts (st : List Gat) (kd : Int) (k : Nat) : Nat := (st.take k).countP (·.1 == kd)
theorem gts_zero (st : List Gat) (kd : Int) : gts st kd 0 = 0 := by simp [gts]
theorem gts_succ (st : List Gat) (kd : Int) (k : Nat) (x : Gat) (h : st[k]? = some x) : gts st kd (k + 1) = gts st kd k + if x.1 == kd then 1 else 0 := by
  unfold gts
  obtain ⟨hk, rfl⟩ := List.getElem?_eq_some_iff.1 h
  rw [List.take_succ_eq_append_getElem hk, List.countP_append, List.countP_singleton]
theorem gts_le (st : List Gat) (kd : Int) (k : Nat) : gts st kd k ≤ k := Nat.le_trans List.countP_le_length (by rw [List.length_take]; omega)
set_option maxHeartbeats 400000 in
theorem implCountGates_c (m : CM) (kd : Int) (v : Value) (w : World) (h : AggR w (ccircuit m) v) :
    Calls Try.prog 20 #[v, .int .i64 kd] w fun e w' => e = .returned (.int .i64 (gts m.gt kd m.gt.length)) ∧ w.grownBy w' none := by
  obtain ⟨u0, u1, rfl, h1, h2⟩ := ccircuit_open h
  obtain ⟨A, c, rfl, hc, hm, hF⟩ := plst_rd (s := 3) (fun _ => rfl) (by omega) h1
  clear h h1 h2
  unfold maxLen at hm
  generalize m.gt = st at *
  generalize hn : st.length = n at *
  clear hn
  have HF := Lib.hid hF
  have A1 := Lib.hid (Blk.new w 28 #[.slice A n c, u1])
  have G1 := Lib.hid (gbA (gbR w none) (.cells #[.slice A n c, u1] 28))
  clear hF
  go_enter Try.func20, Try.ntmps20
  go_wp2_with fail
  go_loopw [5, 11] (fun s i wr => ∃ k : Nat, k ≤ n ∧ i = .int .i64 k ∧ s = .int .i64 (gts st kd k) ∧ Hid (Blk wr w.heap.size 28 #[.slice A n c, u1]) ∧ Hid (w.grownBy wr none)) (fun _ i _ => n - (intOf i).toNat)
  case atStart => exact ⟨0, Nat.zero_le _, rfl, by rw [gts_zero]; rfl, A1.out, G1.out⟩
  case round =>
    clear A1 G1
    obtain ⟨k, hk, rfl, rfl, hB, hG⟩ := hrel
    have c0 := hB.out.cell 0
    simp at c0
    have hmk := gts_le st kd k
    by_cases hlt : k < n
    · obtain ⟨b, o, x, y, z, rfl, hb, hx, q0, q1, q2⟩ := gates_at (FL.grow HF.out hG.out) hlt
      have HS := Lib.hid (gts_succ st kd k _ hx)
      have i1 : (k : Int) < (n : Int) := by omega
      generalize gts st kd k = q at *
      clear hx
      cases h4 : x == kd
      all_goals
        have HD := Lib.hid h4
        go_wp2_with fail
        go_roundw
        case rel => exact ⟨k + 1, by omega, by go_num, by rw [HS.out, HD.out]; first | rfl | go_num, hB.out.grow (gbA (gbR _ _) _), gbA hG.out _⟩
        case measure => simp [intOf]; omega
    · have hkn : k = n := by omega
      subst hkn
      go_wp2_with fail
      go_ret
      exact ⟨rfl, hG.out⟩
end Go.Proofs.Ythdfkiaoahpjpaa
/-
  The circuits for words, in plain lists: what the program's builders append, what wires carry.
-/
namespace Go.Proofs.Ythdfkiaoahpjpaa
open Go.RowKit
set_option linter.unusedVariables false
set_option linter.unusedSimpArgs false
def constTo (m : CM) (n : Nat) : Nat → List Int × CM
  | 0 => ([], m)
  | k + 1 => ((constTo m n k).1 ++ [((constTo m n k).2.gt.length : Int)], (constTo m n k).2.put 2 ((n / 2 ^ k % 2 : Nat) : Int) 0)
def bitI (x : Int) : Prop := 0 ≤ x ∧ x ≤ 1
end Go.Proofs.Ythdfkiaoahpjpaa
/-
  Lists of lists of numbers: the laws' helpers toIntSS, eqIntSS, markIntSS, szIntSS.
-/
namespace Go.Proofs.Ythdfkiaoahpjpaa
open Go.RowKit
set_option linter.unusedVariables false
set_option linter.unusedSimpArgs false
end Go.Proofs.Ythdfkiaoahpjpaa
/-
  Lists of lists of numbers of the call's own: a row is pushed.
-/
namespace Go.Proofs.Ythdfkiaoahpjpaa
open Go.RowKit
set_option linter.unusedVariables false
set_option linter.unusedSimpArgs false
abbrev cintss (rows : List (List Int)) : CS := lst 24 1 (fun r => [cints r]) rows
def MO (H : Nat) (w : World) (s : Value) (rows : List (List Int)) : Prop := ∃ F, (cintss rows).own w F s ∧ ∀ x ∈ F, H ≤ x
section
variable {H : Nat} {w w' : World} {s : Value} {rows : List (List Int)}
theorem MO.grow (h : MO H w s rows) (hg : w.grownBy w' none) : MO H w' s rows := by
  obtain ⟨F, h1, h2⟩ := h
  exact ⟨F, own_growK _ h1 hg, h2⟩
theorem MO.nil (h : w.ownsRow H 24 1 s 0 []) : MO H w s [] := by
  refine ⟨s.ownBlock.toList, ⟨0, [], [], rfl, own_base h (Nat.zero_le _), OwnAll.nil _, by simp, by cases s.ownBlock <;> simp⟩, fun x hx => ?_⟩
  exact (h.lt x (by simpa using hx)).1
end
end Go.Proofs.Ythdfkiaoahpjpaa
/-
  append onto a new empty row ('append([]T{}, x...)'): nothing old changes.
-/
namespace Go.Proofs.Ythdfkiaoahpjpaa
open Go.RowKit
set_option linter.unusedVariables false
set_option linter.unusedSimpArgs false
section
variable {P : Program}
variable {ops : Array Oper} {rest : List Oper} {o : Oper} {a : Act} {Q : Exit → Act → World → Prop}
end
end Go.Proofs.Ythdfkiaoahpjpaa
/-
  TripleUse of the program.
-/
namespace Go.Proofs.Ythdfkiaoahpjpaa
open Go.RowKit
set_option linter.unusedVariables false
set_option linter.unusedSimpArgs false
end Go.Proofs.Ythdfkiaoahpjpaa
/-
  valueIn and TripleOpen of the program.
-/
namespace Go.Proofs.Ythdfkiaoahpjpaa
open Go.RowKit
set_option linter.unusedVariables false
set_option linter.unusedSimpArgs false
end Go.Proofs.Ythdfkiaoahpjpaa
/-
  TripleNew of the program, where it answers.
-/
namespace Go.Proofs.Ythdfkiaoahpjpaa
open Go.RowKit
set_option linter.unusedVariables false
set_option linter.unusedSimpArgs false
def OwnE (w : World) (cs : List CS) (vs : List Value) : Prop := vs.length = cs.length ∧ ∀ (i : Nat) (c : CS) (v : Value), cs[i]? = some c → vs[i]? = some v → ∃ F, c.own w F v
def AggE (w : World) (cs : List CS) (v : Value) : Prop := ∃ vs : List Value, v = .agg vs.toArray ∧ OwnE w cs vs
theorem OwnE.rd {w : World} {cs : List CS} {vs : List Value} (h : OwnE w cs vs) : RdAll w cs vs := ⟨h.1, fun i c v hc hv => by
  obtain ⟨F, hF⟩ := h.2 i c v hc hv
  exact c.toRd hF⟩
theorem AggE.rd {w : World} {cs : List CS} {v : Value} (h : AggE w cs v) : AggR w cs v := by
  obtain ⟨vs, rfl, h⟩ := h
  exact ⟨vs, rfl, h.rd⟩
theorem OwnE.append {w : World} {cs ds : List CS} {vs us : List Value} (h : OwnE w cs vs) (k : OwnE w ds us) : OwnE w (cs ++ ds) (vs ++ us) := by
  refine ⟨by simp [h.1, k.1], fun i c v hc hv => ?_⟩
  rw [List.getElem?_append] at hc hv
  rw [h.1] at hv
  split at hc
  · rename_i hl
    rw [if_pos hl] at hv
    exact h.2 i c v hc hv
  · rename_i hl
    rw [if_neg hl] at hv
    exact k.2 _ c v hc hv
end Go.Proofs.Ythdfkiaoahpjpaa
/-
  isZeroAuth of the program.
-/
namespace Go.Proofs.Ythdfkiaoahpjpaa
open Go.RowKit
set_option linter.unusedVariables false
set_option linter.unusedSimpArgs false
end Go.Proofs.Ythdfkiaoahpjpaa
/-
  copyAuth of the program.
-/
namespace Go.Proofs.Ythdfkiaoahpjpaa
open Go.RowKit
set_option linter.unusedVariables false
set_option linter.unusedSimpArgs false
end Go.Proofs.Ythdfkiaoahpjpaa
