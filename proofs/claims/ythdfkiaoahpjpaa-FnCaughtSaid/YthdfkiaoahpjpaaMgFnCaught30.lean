/-
  Labels in lists; pushes on the rows of a struct.
-/
import Derived.Test.YthdfkiaoahpjpaaMgFnCaught29
namespace Go.Proofs.Ythdfkiaoahpjpaa
open Go.RowKit
set_option linter.unusedVariables false
set_option linter.unusedSimpArgs false
section
variable {ops : Array Oper} {rest : List Oper} {o : Oper} {a : Act} {Q : Exit → Act → World → Prop}
theorem wp_pushF (wr : World) (g : Nat) (hgs : wr.heap.size = g) (hgd : o.guard = none) (s x : Operand)
    (ho : o.op = .call { callee := .builtin .append, args := #[s, x], argTypes := #[24, 24] }) (z : Int) (A : Option Addr) (n c : Nat) (xs : List Int) (Fi : List Nat) (hown : (cints xs).own wr Fi (.slice A n c)) (hl : xs.length = n)
    (hs : a.eval s = .slice A n c) (hx : a.eval x = .slice (some ⟨g, 0, none⟩) 1 1) (hn : n ≤ 1000000)
    (h : ∀ A' c' w' F', Hid ((cints (xs ++ [z])).own w' F' (.slice A' (n + 1) c')) → Hid (Chg (fun y => y ∈ Fi) wr w') → Hid (∀ y ∈ F', y ∈ Fi ∨ wr.heap.size ≤ y) → wpList Try.prog ops Q rest (a.put o.dst (.slice A' (n + 1) c')) w') :
    wpList Try.prog ops Q (o :: rest) a (wr.alloc (.cells #[.int .i64 z] 3)) := by
  obtain ⟨A2, c2, e2, hF2, hrow⟩ := cints_row hown
  have hr := hrow 0 (fun _ _ => Nat.zero_le _)
  rw [hl] at hr
  refine wp_appendG wr g hgs el_int hgd s x ho #[.int .i64 z] rfl (by simp [Value.oneCell']) 0 _ n (xs.map (Value.int .i64)) hr hs hx (by unfold maxLen; omega) (by omega) (Nat.zero_le _) fun v' w9 o9 g9 k9 => ?_
  obtain ⟨A6, c6, rfl, _⟩ := own_form o9
  refine h A6 c6 w9 _ (Lib.hid (cints_own (n := n + 1) (base := 0) (by rw [List.map_append]; simpa using o9))) (Lib.hid (Chg.of (gbT (gbA (gbR wr _) _) g9) (fun y hy => by rw [hF2]; simpa using hy))) (Lib.hid fun y hy => ?_)
  rcases k9 y (by simpa using hy) with h1 | h1
  · left
    rw [hF2]
    simpa using h1.symm
  · right; omega
theorem wp_pushF2 (wr : World) (g : Nat) (hgs : wr.heap.size = g) (hgd : o.guard = none) (s x : Operand)
    (ho : o.op = .call { callee := .builtin .append, args := #[s, x], argTypes := #[24, 24] }) (z z2 : Int) (A : Option Addr) (n c : Nat) (xs : List Int) (Fi : List Nat) (hown : (cints xs).own wr Fi (.slice A n c)) (hl : xs.length = n)
    (hs : a.eval s = .slice A n c) (hx : a.eval x = .slice (some ⟨g, 0, none⟩) 2 2) (hn : n ≤ 1000000)
    (h : ∀ A' c' w' F', Hid ((cints (xs ++ [z, z2])).own w' F' (.slice A' (n + 2) c')) → Hid (Chg (fun y => y ∈ Fi) wr w') → Hid (∀ y ∈ F', y ∈ Fi ∨ wr.heap.size ≤ y) → wpList Try.prog ops Q rest (a.put o.dst (.slice A' (n + 2) c')) w') :
    wpList Try.prog ops Q (o :: rest) a (wr.alloc (.cells #[.int .i64 z, .int .i64 z2] 3)) := by
  subst hgs
  have hlt := CS.lt _ hown
  have gA := gbA (gbR wr none) (.cells #[.int .i64 z, .int .i64 z2] 3)
  obtain ⟨A2, c2, e2, hF2, hrow⟩ := cints_row (own_growK _ hown gA)
  have hr := hrow 0 (fun _ _ => Nat.zero_le _)
  rw [hl] at hr
  have hcell : ∀ j u, ([.int .i64 z, .int .i64 z2] : List Value)[j]? = some u → (wr.alloc (.cells #[.int .i64 z, .int .i64 z2] 3)).cell? ((⟨wr.heap.size, 0, none⟩ : Addr).add j) = some u := by
    intro j u hu
    have hadd : (⟨wr.heap.size, 0, none⟩ : Addr).add j = ⟨wr.heap.size, j, none⟩ := by unfold Addr.add; split <;> simp_all
    rw [hadd, cell_of_row _ _ j #[.int .i64 z, .int .i64 z2] _ (0, 0) (heap_alloc_new wr _)]
    simpa using hu
  refine wp_appendA (wr.alloc (.cells #[.int .i64 z, .int .i64 z2] 3)) el_int hgd s x ho 0 _ n (xs.map (Value.int .i64)) hr hs ⟨wr.heap.size, 0, none⟩ 2 2 [.int .i64 z, .int .i64 z2] hx rfl hcell (by simp [Value.oneCell']) (by unfold maxLen; omega) (by omega) (Nat.zero_le _) fun v' w9 o9 g9 k9 => ?_
  obtain ⟨A6, c6, rfl, _⟩ := own_form o9
  refine h A6 c6 w9 _ (Lib.hid (cints_own (n := n + 2) (base := 0) (by rw [List.map_append]; simpa using o9))) (Lib.hid (Chg.of (gbT (gbA (gbR wr _) _) g9) (fun y hy => by rw [hF2]; simpa using hy))) (Lib.hid fun y hy => ?_)
  rcases k9 y (by simpa using hy) with h1 | h1
  · left
    rw [hF2]
    simpa using h1.symm
  · right; simp at h1; omega
end
theorem lab_q {x : Int} (h : labI x) : inQ x 0 65535 = true := inQ_yes (by have := h.1; omega) (by have := h.2; omega)
set_option maxHeartbeats 800000 in
theorem implareLabels_yes (A : Option Addr) (n c : Nat) (zs : List Int) (w : World) (hx : Ints w A n zs) (hn : n ≤ 1000000) (h : ∀ z ∈ zs, labI z) :
    Calls Try.prog 126 #[.slice A n c] w fun e w' => e = .returned (.bool true) ∧ w = w' := by
  have H := Lib.hid h
  have LX := Lib.hid hx.len
  clear h
  go_enter Try.func126, Try.ntmps126
  go_wp2_with fail
  go_loop [7] (fun i => ∃ k : Nat, k ≤ n ∧ i = .int .i64 k) (fun i => n - (intOf i).toNat)
  case atStart => exact ⟨0, Nat.zero_le _, rfl⟩
  case round =>
    obtain ⟨k, hk, rfl⟩ := hrel
    by_cases hlt : k < n
    · have i1 : (k : Int) < (n : Int) := by omega
      obtain ⟨b, o, rfl, hb, q0⟩ := hx.cell hlt
      have HB := Lib.hid (lab_q (H.out (zs.getD k 0) (by rw [getI _ _ (by rw [LX.out]; exact hlt)]; exact List.getElem_mem _)))
      generalize zs.getD k 0 = z at *
      go_wp2_with fail
      refine (implIsLabel_c z _).mono ?_
      rintro e w2 ⟨rfl, rfl⟩
      rw [HB.out]
      go_wp2_with fail
      go_round
      case rel => exact ⟨k + 1, by omega, by go_num⟩
      case measure => simp [intOf]; omega
    · go_wp2_with fail
      go_ret
      exact ⟨rfl, rfl⟩
set_option maxHeartbeats 800000 in
theorem implLabelFor_yes (z d v : Nat) (w : World) (hz : z < 65536) (hd : d < 65536) (hv : v ≤ 1) :
    Calls Try.prog 108 #[.int .i64 z, .int .i64 d, .int .i64 v] w fun e w' => e = .returned (.int .i64 (labN z d v)) ∧ w.grownBy w' none := by
  have q3 := Lib.hid (inQ_yes (z := (v : Int)) (a := 0) (b := 1) (by omega) (by omega))
  have HL : Hid (labN z d v = z ^^^ v * d) := rfl
  have hvd : v * d < 65536 := by rcases (by omega : v = 0 ∨ v = 1) with rfl | rfl <;> omega
  have HX := Lib.hid (xor_nat z (v * d) (by omega) (by omega))
  have hvi : 0 ≤ (v : Int) * (d : Int) := by have : (v : Int) * (d : Int) = ((v * d : Nat) : Int) := by simp
                                             omega
  have hvj : (v : Int) * (d : Int) < 65536 := by have : (v : Int) * (d : Int) = ((v * d : Nat) : Int) := by simp
                                                 omega
  have II : Hid (Ints (w.alloc (.cells #[.int .i64 z, .int .i64 d] 3)) (some ⟨w.heap.size, 0, none⟩) 2 [(z : Int), (d : Int)]) := Lib.hid (Rd.ofOwn (base := 0) (World.ownsRow_lit w #[.int .i64 z, .int .i64 d] 2 (Nat.zero_le _) (by unfold maxLen; omega) rfl))
  go_enter Try.func108, Try.ntmps108
  go_wp2_with fail
  refine (implareLabels_yes _ 2 2 _ _ II.out (by omega) (fun x hx => by
    simp at hx
    rcases hx with rfl | rfl
    · exact labI.of z hz
    · exact labI.of d hd)).mono ?_
  rintro e w2 ⟨rfl, rfl⟩
  go_wp2_with fail
  refine (implInq_c v 0 1 _).mono ?_
  rintro e w2 ⟨rfl, rfl⟩
  rw [q3.out]
  go_wp2_with fail
  go_ret
  refine ⟨retI ?_, gbA (gbR _ _) _⟩
  rw [HL.out, ← HX.out]
  simp
end Go.Proofs.Ythdfkiaoahpjpaa
