/-
  CountMuls: reference and program; its exact law.
-/
import Derived.Test.YtapljpcpmdlppaaMgFnArithmetics13
namespace Go.Proofs.Ytapljpcpmdlppaa
open Go.RowKit
set_option linter.unusedVariables false
set_option linter.unusedSimpArgs false
abbrev Stp := Int × Int × Int
/-- How many of the first k steps multiply. -/
def muls (st : List Stp) (k : Nat) : Nat := (st.take k).countP (·.1 == 4)
theorem muls_zero (st : List Stp) : muls st 0 = 0 := by simp [muls]
theorem muls_succ (st : List Stp) (k : Nat) (x : Stp) (h : st[k]? = some x) : muls st (k + 1) = muls st k + if x.1 == 4 then 1 else 0 := by
  unfold muls
  obtain ⟨hk, rfl⟩ := List.getElem?_eq_some_iff.1 h
  rw [List.take_succ_eq_append_getElem hk, List.countP_append, List.countP_singleton]
theorem muls_le (st : List Stp) (k : Nat) : muls st k ≤ k := Nat.le_trans List.countP_le_length (by rw [List.length_take]; omega)
theorem steps_at {w : World} {A : Option Addr} {n : Nat} {st : List Stp} (h : FL c3 3 w A n st) {k : Nat} (hk : k < n) :
    ∃ (b o : Nat) (x y z : Int), A = some ⟨b, o, none⟩ ∧ b < w.heap.size ∧ st[k]? = some (x, y, z) ∧ w.cell? ⟨b, o + k * 3, none⟩ = some (.int .i64 x) ∧ w.cell? ⟨b, o + k * 3 + 1, none⟩ = some (.int .i64 y) ∧ w.cell? ⟨b, o + k * 3 + 2, none⟩ = some (.int .i64 z) := by
  obtain ⟨b, o, t, rfl, hb, hx, hc⟩ := h.cell c3_len hk (by omega)
  obtain ⟨x, y, z⟩ := t
  have c0 := hc 0 (by omega)
  have c1 := hc 1 (by omega)
  have c2 := hc 2 (by omega)
  simp only [c3, Nat.add_zero, ← Nat.add_assoc, List.getElem?_cons_zero, List.getElem?_cons_succ] at c0 c1 c2
  exact ⟨b, o, x, y, z, rfl, hb, hx, c0, c1, c2⟩
set_option maxHeartbeats 400000 in
theorem specCountMuls_c (m : AM) (v : Value) (w : World) (h : AggR w (carith m) v) :
    Calls Try.prog 22 #[v] w fun e w' => e = .returned (.int .i64 (muls m.st m.st.length)) ∧ w.grownBy w' none := by
  obtain ⟨u1, u2, rfl, h1, h2⟩ := carith_open h
  obtain ⟨A, c, rfl, hc, hm, hF⟩ := plst_rd (s := 3) (fun _ => rfl) (by omega) h1
  clear h h1 h2
  unfold maxLen at hm
  generalize m.st = st at *
  generalize hn : st.length = n at *
  clear hn
  have HF := Lib.hid hF
  have A1 := Lib.hid (Blk.new w 30 #[.int .i64 m.p, .slice A n c, u2])
  have G1 := Lib.hid (gbA (gbR w none) (.cells #[.int .i64 m.p, .slice A n c, u2] 30))
  clear hF
  go_enter Try.func22, Try.ntmps22
  go_wp2_with fail
  go_loopw [3, 4] (fun s i wr => ∃ k : Nat, k ≤ n ∧ i = .int .i64 k ∧ s = .int .i64 (muls st k) ∧ Hid (Blk wr w.heap.size 30 #[.int .i64 m.p, .slice A n c, u2]) ∧ Hid (w.grownBy wr none)) (fun _ i _ => n - (intOf i).toNat)
  case atStart => exact ⟨0, Nat.zero_le _, rfl, by rw [muls_zero]; rfl, A1.out, G1.out⟩
  case round =>
    clear A1 G1
    obtain ⟨k, hk, rfl, rfl, hB, hG⟩ := hrel
    have c1 := hB.out.cell 1
    simp at c1
    have hmk := muls_le st k
    by_cases hlt : k < n
    · obtain ⟨b, o, x, y, z, rfl, hb, hx, q0, q1, q2⟩ := steps_at (FL.grow HF.out hG.out) hlt
      have HS := Lib.hid (muls_succ st k _ hx)
      have i1 : (k : Int) < (n : Int) := by omega
      generalize muls st k = q at *
      clear hx
      by_cases h4 : x = 4
      · subst h4
        go_wp2_with fail
        go_roundw
        case rel => exact ⟨k + 1, by omega, by go_num, by rw [HS.out]; go_num, hB.out, hG.out⟩
        case measure => simp [intOf]; omega
      · have d4 : (x == 4) = false := by simp [h4]
        have HD := Lib.hid d4
        go_wp2_with fail
        go_roundw
        case rel => exact ⟨k + 1, by omega, by go_num, by rw [HS.out, HD.out]; rfl, hB.out, hG.out⟩
        case measure => simp [intOf]; omega
    · have hkn : k = n := by omega
      subst hkn
      go_wp2_with fail
      go_ret
      exact ⟨rfl, hG.out⟩
set_option maxHeartbeats 400000 in
theorem implCountMuls_c (m : AM) (v : Value) (w : World) (h : AggR w (carith m) v) :
    Calls Try.prog 24 #[v] w fun e w' => e = .returned (.int .i64 (muls m.st m.st.length)) ∧ w.grownBy w' none := by
  obtain ⟨u1, u2, rfl, h1, h2⟩ := carith_open h
  obtain ⟨A, c, rfl, hc, hm, hF⟩ := plst_rd (s := 3) (fun _ => rfl) (by omega) h1
  clear h h1 h2
  unfold maxLen at hm
  generalize m.st = st at *
  generalize hn : st.length = n at *
  clear hn
  have HF := Lib.hid hF
  have A1 := Lib.hid (Blk.new w 30 #[.int .i64 m.p, .slice A n c, u2])
  have G1 := Lib.hid (gbA (gbR w none) (.cells #[.int .i64 m.p, .slice A n c, u2] 30))
  clear hF
  go_enter Try.func24, Try.ntmps24
  go_wp2_with fail
  go_loopw [3, 9] (fun s i wr => ∃ k : Nat, k ≤ n ∧ i = .int .i64 k ∧ s = .int .i64 (muls st k) ∧ Hid (Blk wr w.heap.size 30 #[.int .i64 m.p, .slice A n c, u2]) ∧ Hid (w.grownBy wr none)) (fun _ i _ => n - (intOf i).toNat)
  case atStart => exact ⟨0, Nat.zero_le _, rfl, by rw [muls_zero]; rfl, A1.out, G1.out⟩
  case round =>
    clear A1 G1
    obtain ⟨k, hk, rfl, rfl, hB, hG⟩ := hrel
    have c1 := hB.out.cell 1
    simp at c1
    have hmk := muls_le st k
    by_cases hlt : k < n
    · obtain ⟨b, o, x, y, z, rfl, hb, hx, q0, q1, q2⟩ := steps_at (FL.grow HF.out hG.out) hlt
      have HS := Lib.hid (muls_succ st k _ hx)
      have i1 : (k : Int) < (n : Int) := by omega
      generalize muls st k = q at *
      clear hx
      by_cases h4 : x = 4
      · subst h4
        go_wp2_with fail
        go_roundw
        case rel => exact ⟨k + 1, by omega, by go_num, by rw [HS.out]; go_num, hB.out.grow (gbA (gbR _ _) _), gbA hG.out _⟩
        case measure => simp [intOf]; omega
      · have d4 : (x == 4) = false := by simp [h4]
        have HD := Lib.hid d4
        go_wp2_with fail
        go_roundw
        case rel => exact ⟨k + 1, by omega, by go_num, by rw [HS.out, HD.out]; rfl, hB.out.grow (gbA (gbR _ _) _), gbA hG.out _⟩
        case measure => simp [intOf]; omega
    · have hkn : k = n := by omega
      subst hkn
      go_wp2_with fail
      go_ret
      exact ⟨rfl, hG.out⟩
end Go.Proofs.Ytapljpcpmdlppaa
