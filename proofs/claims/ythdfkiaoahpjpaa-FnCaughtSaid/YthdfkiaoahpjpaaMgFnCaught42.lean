/-
  A drawn circuit: it is well-formed.
-/
import Derived.Test.YthdfkiaoahpjpaaMgFnCaught41
namespace Go.Proofs.Ythdfkiaoahpjpaa
open Go.RowKit
set_option linter.unusedVariables false
set_option linter.unusedSimpArgs false
section
variable {ops : Array Oper} {rest : List Oper} {o : Oper} {a : Act} {Q : Exit → Act → World → Prop}
theorem wp_pushGt (wr : World) (g : Nat) (hgs : wr.heap.size = g) (hgd : o.guard = none) (s x : Operand)
    (ho : o.op = .call { callee := .builtin .append, args := #[s, x], argTypes := #[26, 26] }) (k y z : Int) (A : Option Addr) (n c : Nat) (xs : List Gat) (Fi : List Nat) (hown : (cgates xs).own wr Fi (.slice A n c)) (hl : xs.length = n)
    (hs : a.eval s = .slice A n c) (hx : a.eval x = .slice (some ⟨g, 0, none⟩) 1 1) (hn : n ≤ 1000000)
    (h : ∀ A' c' w' F', Hid ((cgates (xs ++ [(k, y, z)])).own w' F' (.slice A' (n + 1) c')) → Hid (Chg (fun y => y ∈ Fi) (wr.alloc (.cells #[.int .i64 k, .int .i64 y, .int .i64 z] 41)) w') → Hid (∀ y ∈ F', y ∈ Fi ∨ wr.heap.size ≤ y) → wpList Try.prog ops Q rest (a.put o.dst (.slice A' (n + 1) c')) w') :
    wpList Try.prog ops Q (o :: rest) a (wr.alloc (.cells #[.int .i64 k, .int .i64 y, .int .i64 z] 41)) := by
  obtain ⟨A2, c2, e2, hF2, hrow⟩ := plst_row (s := 3) (fun _ => rfl) (by omega) hown
  have hr := hrow 0 (fun _ _ => Nat.zero_le _)
  rw [hl] at hr
  refine wp_appendG wr g hgs elGate hgd s x ho #[.int .i64 k, .int .i64 y, .int .i64 z] rfl (by simp [Value.oneCell']) 0 _ n (xs.flatMap c3) hr hs hx (by unfold maxLen; omega) (by omega) (Nat.zero_le _) fun v' w9 o9 g9 k9 => ?_
  obtain ⟨A6, c6, rfl, _⟩ := own_form o9
  refine h A6 c6 w9 _ (Lib.hid (plst_own (s := 3) (n := n + 1) (base := 0) (fun _ => rfl) (by omega) c3_one (by rw [List.flatMap_append]; simpa [c3] using o9))) (Lib.hid (Chg.of g9 (fun y hy => by rw [hF2]; simpa using hy))) (Lib.hid fun y hy => ?_)
  rcases k9 y (by simpa using hy) with h1 | h1
  · left
    rw [hF2]
    simpa using h1.symm
  · right; omega
end
section
variable {T : TypeId} {cs : List CS} {zs : List Gat} {g lo n i : Nat} {w : World}
theorem sofF.off {S : Nat → Prop} {w' : World} (h : sofF lo T cs g w) (k : Chg S w w') (hS : ∀ y, S y → y < lo) (hg : lo ≤ g) : sofF lo T cs g w' := by
  obtain ⟨F, h1, h2⟩ := h
  exact ⟨F, h1.chg k (fun y hy hs => by have := hS y hs; have := h2 y hy; omega) (fun hs => by have := hS g hs; omega), h2⟩
theorem sof_plst {α : Type} {e : TypeId} {s : Nat} {f : α → List Value} (hf : ∀ x, (f x).length = s) (hs0 : 0 < s) {xs : List α} (h : sofF lo T cs g w) (hi : cs[i]? = some (plst e s f xs)) (hl : xs.length = n) (hg : lo ≤ g) :
    ∃ A c F1, w.cell? ⟨g, i, none⟩ = some (.slice A n c) ∧ (plst e s f xs).own w F1 (.slice A n c) ∧ ((∀ x ∈ F1, lo ≤ x ∧ x < w.heap.size) ∧ g ∉ F1 ∧ g < w.heap.size) ∧
      (∀ (w1 w' : World) A' n' c' F' (ys : List α), Chg (fun y => y < lo) w w1 → (plst e s f ys).own w' F' (.slice A' n' c') → Chg (fun y => y ∈ F1) w1 w' → (∀ y ∈ F', y ∈ F1 ∨ w1.heap.size ≤ y) →
        w'.cell? ⟨g, i, none⟩ = some (.slice A n c) ∧ w'.frozen? ⟨g, i, none⟩ = false ∧ sofF lo T (cs.set i (plst e s f ys)) g (w'.setCell ⟨g, i, none⟩ (.slice A' n' c'))) := by
  have hsof := h
  obtain ⟨F, h, hF⟩ := h
  have hlo : lo ≤ w.heap.size := by have := h.ltg; omega
  have hlt := h.ltg
  obtain ⟨u, Fi, h1, h2, h3, h4, h5, _, _⟩ := h.at_ (i := i) (c := plst e s f xs) hi
  obtain ⟨A, c, rfl, hFi, _⟩ := plst_row hf hs0 h3
  subst hl
  refine ⟨A, c, Fi, h1, h3, ⟨fun x hx => ⟨hF x (h4 x hx), CS.lt _ h3 x hx⟩, h5, hlt⟩, fun w1 w' A' n' c' F' ys hc1 ho hc hs => ?_⟩
  obtain ⟨F1, k, kF⟩ := hsof.off hc1 (fun y hy => hy) hg
  obtain ⟨u1, Gi, k1, k2, k3, k4, k5, k6, _⟩ := k.at_ (i := i) (c := plst e s f xs) hi
  have hu := hc1.cell h1 hlt (by omega)
  rw [k1] at hu
  injection hu with hu
  subst hu
  obtain ⟨_, _, _, hGi, _⟩ := plst_row hf hs0 k3
  have hGF : Gi = Fi := by rw [hGi, hFi]
  subst hGF
  obtain ⟨F2, m1, m2⟩ := k6 w' (plst e s f ys) _ F' hc ho hs
  refine ⟨hc.cell k1 k.ltg k5, hc.frozen k2 k.ltg k5, ⟨F2, m1, fun y hy => ?_⟩⟩
  rcases m2 y hy with e | e
  · exact kF y e
  · have := hc1.size; omega
end
def CcI (lo g3 i : Nat) (w : World) : Prop := ∃ m : CM, m.outs = [] ∧ m.gt.length = i ∧ (∀ j, j < i → gateB j (gtAt m j) = true) ∧ sofF lo 28 (ccircuit m) g3 w
def CcO (lo g3 n k : Nat) (w : World) : Prop := ∃ m : CM, m.outs.length = k ∧ (∀ z ∈ m.outs, 0 ≤ z ∧ z < n) ∧ m.gt.length = n ∧ (∀ j, j < n → gateB j (gtAt m j) = true) ∧ sofF lo 28 (ccircuit m) g3 w
theorem gt_push {gs : List Gat} {os : List Int} {i : Nat} {x : Gat} (hl : gs.length = i) (h : ∀ j, j < i → gateB j (gtAt ⟨gs, os⟩ j) = true) (hx : gateB i x = true) : ∀ j, j < i + 1 → gateB j (gtAt ⟨gs ++ [x], os⟩ j) = true := by
  intro j hj
  unfold gtAt at *
  show gateB j ((gs ++ [x]).getD j (0, 0, 0)) = true
  rw [List.getD_eq_getElem?_getD]
  by_cases e : j < i
  · rw [List.getElem?_append_left (by omega), ← List.getD_eq_getElem?_getD]
    exact h j e
  · obtain rfl : j = i := by omega
    rw [List.getElem?_append_right (by omega)]
    simpa [hl] using hx
def GtA (wr : World) (g3 g i : Nat) (A : Option Addr) (n c : Nat) (bs : List Int) (gs : List Gat) (F1 : List Nat) (A1 : Option Addr) (c1 : Nat) (v : Value) (w' : World) : Prop :=
  ∃ (A8 : Option Addr) (c8 : Nat) (k x y : Int), v = .slice A8 (i + 1) c8 ∧ gateB i (k, x, y) = true ∧ w'.cell? ⟨g3, 0, none⟩ = some (.slice A1 i c1) ∧ w'.frozen? ⟨g3, 0, none⟩ = false ∧ sofF g3 28 (ccircuit ⟨gs ++ [(k, x, y)], []⟩) g3 (w'.setCell ⟨g3, 0, none⟩ (.slice A8 (i + 1) c8)) ∧ Cur w' g A n c bs ∧ Chg (fun y => y ∈ F1 ∨ y = g) wr w'
def OuA (wr : World) (g3 g k nn : Nat) (A : Option Addr) (n c : Nat) (bs : List Int) (m : CM) (F1 : List Nat) (A1 : Option Addr) (c1 : Nat) (v : Value) (w' : World) : Prop :=
  ∃ (A8 : Option Addr) (c8 : Nat) (z : Int), v = .slice A8 (k + 1) c8 ∧ (0 ≤ z ∧ z < nn) ∧ w'.cell? ⟨g3, 1, none⟩ = some (.slice A1 k c1) ∧ w'.frozen? ⟨g3, 1, none⟩ = false ∧ sofF g3 28 (ccircuit { m with outs := m.outs ++ [z] }) g3 (w'.setCell ⟨g3, 1, none⟩ (.slice A8 (k + 1) c8)) ∧ Cur w' g A n c bs ∧ Chg (fun y => y ∈ F1 ∨ y = g) wr w'
def CaseCJ (w : World) (g : Nat) (A : Option Addr) (n c : Nat) (bs : List Int) (e : Ending) (w' : World) : Prop :=
  ∃ (V : Value) (m : CM), e = .returned V ∧ COk m ∧ (1 ≤ m.gt.length ∧ m.gt.length ≤ 24) ∧ (1 ≤ m.outs.length ∧ m.outs.length ≤ 4) ∧ aggF w.heap.size (ccircuit m) V w' ∧ Cur w' g A n c bs ∧ w.grownBy w' (some g)
theorem circ_nil (w : World) : sofF w.heap.size 28 (ccircuit ⟨[], []⟩) w.heap.size (w.alloc (.cells #[.slice none 0 0, .slice none 0 0] 28)) := by
  have h0 : (cgates []).own w [] (.slice none 0 0) := plst_own (s := 3) (base := 0) (n := 0) (v := .slice none 0 0) (fun _ => rfl) (by omega) c3_one (World.ownsRow_nil _ _ _ _)
  have h1 : (cints []).own w [] (.slice none 0 0) := cints_own (base := 0) (n := 0) (World.ownsRow_nil _ _ _ _)
  have h2 := ccircuit_omk (m := ⟨[], []⟩) h0 h1 (by simp)
  exact ⟨_, SOF.made (vs := [.slice none 0 0, .slice none 0 0]) (Blk.new w _ _) (h2.grow (gbA (gbR _ _) _)) (by simp), by simp⟩
set_option maxHeartbeats 4000000 in
set_option maxRecDepth 100000 in
theorem l13Case_c (w : World) (g : Nat) (A : Option Addr) (n c : Nat) (bs : List Int) (hc : Cur w g A n c bs) :
    Calls Try.prog 86 #[.pointer (some ⟨g, 0, none⟩)] w (CaseCJ w g A n c bs) := by
  have hgl := hc.lt
  have HLb : Hid (0 < n → ∀ a, A = some a → a.block < w.heap.size) := Lib.hid (fun hn a ha => by
    obtain ⟨b, o, rfl, hb, _⟩ := hc.bytes.2 hn
    injection ha with ha
    subst ha
    simp only
    omega)
  obtain ⟨w2, hw2⟩ : ∃ x : World, (w.alloc (.cells #[.slice none 0 0, .slice none 0 0] 28)).alloc (.cells #[.slice none 0 0, .slice none 0 0] 28) = x := ⟨_, rfl⟩
  have C2 : Hid (Cur w2 g A n c bs) := by rw [← hw2]; exact Lib.hid (hc.grow (gbA (gbA (gbR _ _) _) _))
  have B2 : Hid (Blk w2 w.heap.size 28 #[.slice none 0 0, .slice none 0 0]) := by rw [← hw2]; exact Lib.hid ((Blk.new w _ _).grow (gbA (gbR _ _) _))
  have G2 : Hid (w.grownBy w2 (some g)) := by rw [← hw2]; exact Lib.hid (gbW (gbA (gbA (gbR _ _) _) _))
  have S2 : Hid (sofF (w.heap.size + 1) 28 (ccircuit ⟨[], []⟩) (w.heap.size + 1) w2) := by
    rw [← hw2]
    have := circ_nil (w.alloc (.cells #[.slice none 0 0, .slice none 0 0] 28))
    simp only [World.size_alloc] at this
    exact Lib.hid this
  have HW2 := Lib.hid hw2
  clear hc hw2
  go_enter Try.func86, Try.ntmps86
  go_wp2_with fail
  rw [HW2.out]
  clear HW2
  obtain ⟨g3, hg3⟩ : ∃ x, w.heap.size + 1 = x := ⟨_, rfl⟩
  rw [hg3] at S2 ⊢
  refine (l01Below_c _ 24 (by omega) g A n c bs C2.out).mono ?_
  rintro e w3 ⟨x, rfl, hx0, hx1, c3, g3'⟩
  obtain ⟨xn, rfl⟩ := Int.eq_ofNat_of_zero_le hx0
  have hx2 := hx1 (by omega)
  have C3 := Lib.hid c3
  have B3 := Lib.hid (B2.out.grown g3' (by simp; omega))
  have G3 := Lib.hid (gbT G2.out g3')
  have I3 : Hid (CcI g3 g3 0 w3) := Lib.hid ⟨⟨[], []⟩, rfl, rfl, fun j hj => by omega, S2.out.off (Chg.of (S := fun y => y = g) g3' (fun y h => by injection h with h; exact h.symm)) (fun y hy => by omega) (Nat.le_refl _)⟩
  clear c3 g3' C2 B2 G2 S2 hx1
  obtain ⟨nn, hnn⟩ : ∃ nn : Nat, nn = xn + 1 := ⟨_, rfl⟩
  have hnb : 1 ≤ nn ∧ nn ≤ 24 := by omega
  go_wp2_with fail
  rw [show ((1 : Int) + (xn : Int)) = (nn : Int) by omega]
  clear hnn hx2 hx0
  go_loopw [5] (fun q wr => ∃ i : Nat, i ≤ nn ∧ q = .int .i64 i ∧ Hid (CcI g3 g3 i wr) ∧ Hid (Cur wr g A n c bs) ∧ Hid (Blk wr w.heap.size 28 #[.slice none 0 0, .slice none 0 0]) ∧ Hid (w.grownBy wr (some g))) (fun q _ => nn - (intOf q).toNat)
  case atStart => exact ⟨0, by omega, rfl, I3, C3, B3, G3⟩
  case round =>
    clear I3 C3 B3 G3
    obtain ⟨i, hi, rfl, hI, hCu, hB, hG⟩ := hrel
    by_cases hlt : i < nn
    · have i1 : (i : Int) < (nn : Int) := by omega
      obtain ⟨⟨gs, os⟩, hos, hgs, hgt, hS⟩ := hI.out
      simp only at hos hgs
      subst hos
      obtain ⟨A1, c1, F1, pc, ho1, ⟨hf1, hf2, hf3⟩, hpu⟩ := sof_plst (i := 0) (s := 3) (fun _ => rfl) (by omega) hS rfl hgs (Nat.le_refl _)
      have PC := Lib.hid pc
      have HO1 := Lib.hid ho1
      have HPU := Lib.hid hpu
      have HF1 := Lib.hid hf1
      have HF2 := Lib.hid hf2
      have HGS := Lib.hid hgs
      have HGT := Lib.hid hgt
      have hcl := hCu.out.lt
      have hbl := hB.out.lt
      clear pc ho1 hpu hf1 hf2 hgs hgt hS hI
      go_wp2_with fail
      refine region_chain [.rd (.pointer (some ⟨g3, 0, none⟩)), .rd (.slice A1 i c1), .rd (.pointer (some ⟨g, 0, none⟩)), .rd (.int .i64 i), .ch, .ch, .ch, .rd (.pointer (some ⟨g3, 0, none⟩)), .ch] (fun y => y ∈ F1 ∨ y = g)
        [⟨[], fun _ w' => w' = wr.drew⟩,
         ⟨[20], fun l w' => ∃ k x y : Int, l.getD 0 undef = .agg #[.int .i64 k, .int .i64 x, .int .i64 y] ∧ gateB i (k, x, y) = true ∧ Cur w' g A n c bs ∧ wr.grownBy w' (some g)⟩,
         ⟨[21], fun l w' => ∃ w5, ∃ k x y : Int, w' = w5.alloc (.cells #[.int .i64 k, .int .i64 x, .int .i64 y] 41) ∧ l.getD 0 undef = .slice (some ⟨w5.heap.size, 0, none⟩) 1 1 ∧ gateB i (k, x, y) = true ∧ Cur w5 g A n c bs ∧ wr.grownBy w5 (some g)⟩,
         ⟨[22], fun l w' => GtA wr g3 g i A n c bs gs F1 A1 c1 (l.getD 0 undef) w'⟩,
         ⟨[], fun _ w' => CcI g3 g3 (i + 1) w' ∧ Cur w' g A n c bs ∧ Chg (fun y => y = g ∨ g3 ≤ y) wr w'⟩]
        (by kernel_rfl) (by kernel_rfl) (by kernel_rfl) 4 (by kernel_rfl) (by simp only [flOk, and_true]) rfl rfl ?_ ?_
      · simp only [hopsK, hopK, Kd.next, and_true]
        refine ⟨?_, ?_, ?_, ?_, ?_, ?_, ?_, ?_, ?_⟩
        · intro f w4 hG hd
          (try simp [depsC, dstAt, kAt, bindE, List.filter_cons, bd_data, bd_chain, bd_guard, bd_phase, bd_text, bd_gc] at hd)
          (first | simp [puts, dsts, Act.put, hd] | simp [puts, dsts, Act.put])
          clear hd
          go_wp2_with fail
          exact ⟨rfl, rfl⟩
        · intro f w4 hG hd
          have b5 := hG.cell (gbk (gbD (gbR wr none)) PC.out) (by simp; omega) (fun e => e.elim (fun e => HF2.out e) (fun e => by omega))
          (try simp [depsC, dstAt, kAt, bindE, List.filter_cons, bd_data, bd_chain, bd_guard, bd_phase, bd_text, bd_gc] at hd)
          (first | simp [puts, dsts, Act.put, hd] | simp [puts, dsts, Act.put])
          clear hd
          go_wp2_with fail
          exact ⟨rfl, rfl⟩
        · intro f w4 hG hd
          (try simp [depsC, dstAt, kAt, bindE, List.filter_cons, bd_data, bd_chain, bd_guard, bd_phase, bd_text, bd_gc] at hd)
          (first | simp [puts, dsts, Act.put, hd] | simp [puts, dsts, Act.put])
          clear hd
          go_wp2_with fail
          exact ⟨rfl, rfl⟩
        · intro f w4 hG hd
          (try simp [depsC, dstAt, kAt, bindE, List.filter_cons, bd_data, bd_chain, bd_guard, bd_phase, bd_text, bd_gc] at hd)
          (first | simp [puts, dsts, Act.put, hd] | simp [puts, dsts, Act.put])
          clear hd
          go_wp2_with fail
          exact ⟨rfl, rfl⟩
        · intro f w4 hG hI hd
          have hI : w4 = wr.drew := hI
          subst hI
          (try simp [depsC, dstAt, kAt, bindE, List.filter_cons, bd_data, bd_chain, bd_guard, bd_phase, bd_text, bd_gc] at hd)
          (first | simp [puts, dsts, Act.put, hd] | simp [puts, dsts, Act.put])
          clear hd
          go_wp2_with fail
          refine (l13Gate_c wr.drew i g (by omega) A n c bs (hCu.out.grow (gbD (gbR wr none)))).mono ?_
          rintro e w6 ⟨k, x, y, rfl, hgk, c6, g6⟩
          have HGK := Lib.hid hgk
          have C6 := Lib.hid c6
          have G6 := Lib.hid g6
          clear hgk c6 g6
          go_wp2_with fail
          exact ⟨_, rfl, ⟨k, x, y, rfl, HGK.out, C6.out, gbT (gbW (gbD (gbR wr none))) G6.out⟩, ⟨Chg.of G6.out (fun y hy => .inr (by injection hy with hy; exact hy.symm)), by simp [keepsC, dstAt]⟩⟩
        · intro f w4 hG hI hd
          obtain ⟨k, x, y, e20, h1, h2, h3⟩ := hI
          have e20 : f 20 = .agg #[.int .i64 k, .int .i64 x, .int .i64 y] := e20
          clear hd
          simp [puts, dsts, Act.put, e20]
          go_wp2_with fail
          exact ⟨_, rfl, ⟨w4, k, x, y, rfl, rfl, h1, h2, h3⟩, ⟨Chg.of (gbA (gbR w4 none) _) (by simp), by simp [keepsC, dstAt]⟩⟩
        · intro f w4 hG hI hd
          obtain ⟨w5, k, x, y, rfl, e21, h1, h2, h3⟩ := hI
          have e21 : f 21 = .slice (some ⟨w5.heap.size, 0, none⟩) 1 1 := e21
          (try simp [depsC, dstAt, kAt, bindE, List.filter_cons, bd_data, bd_chain, bd_guard, bd_phase, bd_text, bd_gc] at hd)
          simp [puts, dsts, Act.put, hd, e21]
          clear hd e21
          have hs5 := h3.size
          have c5 : Chg (fun y => y = g) wr w5 := Chg.of h3 (fun y h => by injection h with h; exact h.symm)
          have ho5 := Lib.hid (own_chgK _ HO1.out c5 (fun y hy e => by have := (HF1.out y hy).1; omega))
          have H2 := Lib.hid h2
          have C5 := Lib.hid c5
          clear h2 h3 c5
          refine wp_pushGt w5 w5.heap.size rfl rfl (.tmp 17) (.tmp 21) rfl k x y A1 i c1 gs F1 ho5.out HGS.out rfl rfl (by omega) ?_
          intro A8 c8 w9 F8 O8 C8 S8
          go_wp2_with fail
          have C9 := (Chg.of (S := fun y => y ∈ F1) (gbA (gbR w5 none) (.cells #[.int .i64 k, .int .i64 x, .int .i64 y] 41)) (by simp)).trans C8.out
          obtain ⟨q1, q2, q3⟩ := HPU.out w5 w9 A8 (i + 1) c8 F8 _ (C5.out.mono fun y hy => by omega) O8.out C9 S8.out
          refine ⟨_, rfl, ⟨A8, c8, k, x, y, rfl, h1, q1, q2, q3, H2.out.kept C9 (C9.block g H2.out.lt (fun e => by have := (HF1.out _ e).1; omega)) (fun hn a ha e => by have := HLb.out hn a ha; have := (HF1.out _ e).1; omega), (C5.out.mono fun y hy => .inr hy).trans (C9.mono fun y hy => .inl hy)⟩, ⟨C8.out.mono fun y hy => .inl hy, by simp [keepsC, dstAt]⟩⟩
        · intro f w4 hG hd
          (try simp [depsC, dstAt, kAt, bindE, List.filter_cons, bd_data, bd_chain, bd_guard, bd_phase, bd_text, bd_gc] at hd)
          (first | simp [puts, dsts, Act.put, hd] | simp [puts, dsts, Act.put])
          clear hd
          go_wp2_with fail
          exact ⟨rfl, rfl⟩
        · intro f w4 hG hI hd
          obtain ⟨A8, c8, k, x, y, e22, hgk, q1, q2, q3, hcu, hch⟩ := hI
          have e22 : f 22 = .slice A8 (i + 1) c8 := e22
          have S9 : CcI g3 g3 (i + 1) (w4.setCell ⟨g3, 0, none⟩ (.slice A8 (i + 1) c8)) := ⟨⟨gs ++ [(k, x, y)], []⟩, rfl, by simp [HGS.out], gt_push HGS.out HGT.out hgk, q3⟩
          have CS := chgS w4 g3 0 (.slice A8 (i + 1) c8)
          have C9 := hcu.kept CS (CS.block g hcu.lt (by omega)) (fun hn a ha e => by have := HLb.out hn a ha; omega)
          have H9 : Chg (fun y => y = g ∨ g3 ≤ y) wr (w4.setCell ⟨g3, 0, none⟩ (.slice A8 (i + 1) c8)) := (hch.mono fun y hy => hy.elim (fun e => .inr (HF1.out y e).1) .inl).trans (CS.mono fun y hy => .inr (by omega))
          have HS9 := Lib.hid S9
          have HC9 := Lib.hid C9
          have HH9 := Lib.hid H9
          clear S9 CS C9 H9 q3 hcu hch
          (try simp [depsC, dstAt, kAt, bindE, List.filter_cons, bd_data, bd_chain, bd_guard, bd_phase, bd_text, bd_gc] at hd)
          simp [puts, dsts, Act.put, hd, e22]
          clear hd
          go_wp2_with fail
          exact ⟨rfl, .bool false, HS9.out, HC9.out, HH9.out⟩
      intro f w8 hI hd
      simp only [puts, dsts, Act.put, List.filterMap_cons, List.filterMap_nil, List.setIfInBounds_toArray, List.set_cons_zero, List.set_cons_succ]
      obtain ⟨hI8, hC8, hch⟩ := hI
      have I8 := Lib.hid hI8
      have C8 := Lib.hid hC8
      have B8 := Lib.hid (hB.out.chg hch (fun e => by omega))
      have G8 := Lib.hid (gbC hG.out hch (fun y hy => hy.elim (fun e => .inl (by rw [e])) (fun e => .inr (by omega))))
      clear hI8 hC8 hch hd
      go_wp2_with fail
      go_roundw
      case rel => exact ⟨i + 1, by omega, by go_num, I8, C8, B8, G8⟩
      case measure => simp [intOf]; omega
    · have hin : i = nn := by omega
      subst hin
      obtain ⟨⟨gs, os⟩, hos, hgs, hgt, hS⟩ := hI.out
      simp only at hos hgs
      subst hos
      have O0 : Hid (CcO g3 g3 i 0 wr) := Lib.hid ⟨⟨gs, []⟩, rfl, by simp, hgs, hgt, hS⟩
      clear hI hgs hgt hS
      go_wp2_with fail
      obtain ⟨wo, hwo⟩ : ∃ wo : World, wr = wo := ⟨_, rfl⟩
      rw [hwo] at hCu hB hG O0 ⊢
      clear hwo
      go_loopw [6] (fun q wr => ∃ k : Nat, k ≤ 4 ∧ q = .int .i64 k ∧ Hid (CcO g3 g3 i k wr) ∧ Hid (Cur wr g A n c bs) ∧ Hid (Blk wr w.heap.size 28 #[.slice none 0 0, .slice none 0 0]) ∧ Hid (w.grownBy wr (some g))) (fun q _ => 4 - (intOf q).toNat)
      case atStart => exact ⟨0, by omega, rfl, O0, hCu, hB, hG⟩
      case round =>
        clear O0 hCu hB hG
        obtain ⟨k, hk, rfl, hI, hCu, hB, hG⟩ := hrel
        go_wp2_with fail
        refine (l01Below_c _ 4 (by omega) g A n c bs hCu.out).mono ?_
        rintro e wq ⟨y, rfl, hy0, hy1, c4, g4⟩
        obtain ⟨yn, rfl⟩ := Int.eq_ofNat_of_zero_le hy0
        have hy2 := hy1 (by omega)
        have hCu4 := Lib.hid c4
        have hB4 := Lib.hid (hB.out.grown g4 (by simp; omega))
        have hG4 := Lib.hid (gbT hG.out g4)
        obtain ⟨m, hmk, hmo, hmi, hms, hS⟩ := hI.out
        have hS4 := hS.off (Chg.of (S := fun y => y = g) g4 (fun y h => by injection h with h; exact h.symm)) (fun y hy => by omega) (Nat.le_refl _)
        have HMO := Lib.hid hmo
        have HMI := Lib.hid hmi
        have HMS := Lib.hid hms
        have HMK := Lib.hid hmk
        clear c4 g4 hy1 hI hCu hB hG hS hmo hmi hms
        have hCu := hCu4
        have hB := hB4
        have hG := hG4
        clear hCu4 hB4 hG4
        have hcl := hCu.out.lt
        have hbl := hB.out.lt
        by_cases hkt : (k : Int) < 1 + (yn : Int)
        · obtain ⟨A1, c1, F1, pc, ho1, ⟨hf1, hf2, hf3⟩, hpu⟩ := sof_plst (i := 1) (s := 1) (e := 3) (f := fiC) (xs := m.outs) (fun _ => rfl) (by omega) hS4 rfl hmk (Nat.le_refl _)
          have PC := Lib.hid pc
          have HO1 := Lib.hid ho1
          have HPU := Lib.hid hpu
          have HF1 := Lib.hid hf1
          have HF2 := Lib.hid hf2
          clear pc ho1 hpu hf1 hf2 hS4 hmk
          go_wp2_with fail
          refine region_chain [.rd (.pointer (some ⟨g3, 1, none⟩)), .rd (.slice A1 k c1), .rd (.pointer (some ⟨g, 0, none⟩)), .rd (.int .i64 i), .ch, .ch, .ch, .rd (.pointer (some ⟨g3, 1, none⟩)), .ch] (fun y => y ∈ F1 ∨ y = g)
            [⟨[], fun _ w' => w' = wq.drew⟩,
             ⟨[35], fun l w' => ∃ z : Int, l.getD 0 undef = .int .i64 z ∧ (0 ≤ z ∧ z < i) ∧ Cur w' g A n c bs ∧ wq.grownBy w' (some g)⟩,
             ⟨[36], fun l w' => ∃ w5, ∃ z : Int, w' = w5.alloc (.cells #[.int .i64 z] 3) ∧ l.getD 0 undef = .slice (some ⟨w5.heap.size, 0, none⟩) 1 1 ∧ (0 ≤ z ∧ z < i) ∧ Cur w5 g A n c bs ∧ wq.grownBy w5 (some g)⟩,
             ⟨[37], fun l w' => OuA wq g3 g k i A n c bs m F1 A1 c1 (l.getD 0 undef) w'⟩,
             ⟨[], fun _ w' => CcO g3 g3 i (k + 1) w' ∧ Cur w' g A n c bs ∧ Chg (fun y => y = g ∨ g3 ≤ y) wq w'⟩]
            (by kernel_rfl) (by kernel_rfl) (by kernel_rfl) 4 (by kernel_rfl) (by simp only [flOk, and_true]) rfl rfl ?_ ?_
          · simp only [hopsK, hopK, Kd.next, and_true]
            refine ⟨?_, ?_, ?_, ?_, ?_, ?_, ?_, ?_, ?_⟩
            · intro f w4 hG hd
              (try simp [depsC, dstAt, kAt, bindE, List.filter_cons, bd_data, bd_chain, bd_guard, bd_phase, bd_text, bd_gc] at hd)
              (first | simp [puts, dsts, Act.put, hd] | simp [puts, dsts, Act.put])
              clear hd
              go_wp2_with fail
              exact ⟨rfl, rfl⟩
            · intro f w4 hG hd
              have b5 := hG.cell (gbk (gbD (gbR wq none)) PC.out) (by simp; omega) (fun e => e.elim (fun e => HF2.out e) (fun e => by omega))
              (try simp [depsC, dstAt, kAt, bindE, List.filter_cons, bd_data, bd_chain, bd_guard, bd_phase, bd_text, bd_gc] at hd)
              (first | simp [puts, dsts, Act.put, hd] | simp [puts, dsts, Act.put])
              clear hd
              go_wp2_with fail
              exact ⟨rfl, rfl⟩
            · intro f w4 hG hd
              (try simp [depsC, dstAt, kAt, bindE, List.filter_cons, bd_data, bd_chain, bd_guard, bd_phase, bd_text, bd_gc] at hd)
              (first | simp [puts, dsts, Act.put, hd] | simp [puts, dsts, Act.put])
              clear hd
              go_wp2_with fail
              exact ⟨rfl, rfl⟩
            · intro f w4 hG hd
              (try simp [depsC, dstAt, kAt, bindE, List.filter_cons, bd_data, bd_chain, bd_guard, bd_phase, bd_text, bd_gc] at hd)
              (first | simp [puts, dsts, Act.put, hd] | simp [puts, dsts, Act.put])
              clear hd
              go_wp2_with fail
              exact ⟨rfl, rfl⟩
            · intro f w4 hG hI hd
              have hI : w4 = wq.drew := hI
              subst hI
              (try simp [depsC, dstAt, kAt, bindE, List.filter_cons, bd_data, bd_chain, bd_guard, bd_phase, bd_text, bd_gc] at hd)
              (first | simp [puts, dsts, Act.put, hd] | simp [puts, dsts, Act.put])
              clear hd
              go_wp2_with fail
              refine (l01Below_c wq.drew i (by omega) g A n c bs (hCu.out.grow (gbD (gbR wq none)))).mono ?_
              rintro e w6 ⟨z, rfl, hz0, hz1, c6, g6⟩
              have hz2 := hz1 (by omega)
              have C6 := Lib.hid c6
              have G6 := Lib.hid g6
              clear c6 g6
              go_wp2_with fail
              exact ⟨_, rfl, ⟨z, rfl, ⟨hz0, hz2⟩, C6.out, gbT (gbW (gbD (gbR wq none))) G6.out⟩, ⟨Chg.of G6.out (fun y hy => .inr (by injection hy with hy; exact hy.symm)), by simp [keepsC, dstAt]⟩⟩
            · intro f w4 hG hI hd
              obtain ⟨z, e35, h1, h2, h3⟩ := hI
              have e35 : f 35 = .int .i64 z := e35
              clear hd
              simp [puts, dsts, Act.put, e35]
              go_wp2_with fail
              exact ⟨_, rfl, ⟨w4, z, rfl, rfl, h1, h2, h3⟩, ⟨Chg.of (gbA (gbR w4 none) _) (by simp), by simp [keepsC, dstAt]⟩⟩
            · intro f w4 hG hI hd
              obtain ⟨w5, z, rfl, e36, h1, h2, h3⟩ := hI
              have e36 : f 36 = .slice (some ⟨w5.heap.size, 0, none⟩) 1 1 := e36
              (try simp [depsC, dstAt, kAt, bindE, List.filter_cons, bd_data, bd_chain, bd_guard, bd_phase, bd_text, bd_gc] at hd)
              simp [puts, dsts, Act.put, hd, e36]
              clear hd e36
              have hs5 := h3.size
              have c5 : Chg (fun y => y = g) wq w5 := Chg.of h3 (fun y h => by injection h with h; exact h.symm)
              have ho5 := Lib.hid (own_chgK _ HO1.out c5 (fun y hy e => by have := (HF1.out y hy).1; omega))
              have H2 := Lib.hid h2
              have C5 := Lib.hid c5
              clear h2 h3 c5
              refine wp_pushG w5 w5.heap.size rfl rfl (.tmp 32) (.tmp 36) rfl z A1 k c1 m.outs F1 ho5.out HMK.out rfl rfl (by omega) ?_
              intro A8 c8 w9 F8 O8 C8 S8
              go_wp2_with fail
              have C9 := (Chg.of (S := fun y => y ∈ F1) (gbA (gbR w5 none) (.cells #[.int .i64 z] 3)) (by simp)).trans C8.out
              obtain ⟨q1, q2, q3⟩ := HPU.out w5 w9 A8 (k + 1) c8 F8 _ (C5.out.mono fun y hy => by omega) O8.out C9 S8.out
              refine ⟨_, rfl, ⟨A8, c8, z, rfl, h1, q1, q2, q3, H2.out.kept C9 (C9.block g H2.out.lt (fun e => by have := (HF1.out _ e).1; omega)) (fun hn a ha e => by have := HLb.out hn a ha; have := (HF1.out _ e).1; omega), (C5.out.mono fun y hy => .inr hy).trans (C9.mono fun y hy => .inl hy)⟩, ⟨C8.out.mono fun y hy => .inl hy, by simp [keepsC, dstAt]⟩⟩
            · intro f w4 hG hd
              (try simp [depsC, dstAt, kAt, bindE, List.filter_cons, bd_data, bd_chain, bd_guard, bd_phase, bd_text, bd_gc] at hd)
              (first | simp [puts, dsts, Act.put, hd] | simp [puts, dsts, Act.put])
              clear hd
              go_wp2_with fail
              exact ⟨rfl, rfl⟩
            · intro f w4 hG hI hd
              obtain ⟨A8, c8, z, e37, hz, q1, q2, q3, hcu, hch⟩ := hI
              have e37 : f 37 = .slice A8 (k + 1) c8 := e37
              have S9 : CcO g3 g3 i (k + 1) (w4.setCell ⟨g3, 1, none⟩ (.slice A8 (k + 1) c8)) := ⟨{ m with outs := m.outs ++ [z] }, by simp [HMK.out], fun u hu => by
                rcases List.mem_append.1 hu with hu | hu
                · exact HMO.out u hu
                · simp at hu; subst hu; exact hz, HMI.out, HMS.out, q3⟩
              have CS := chgS w4 g3 1 (.slice A8 (k + 1) c8)
              have C9 := hcu.kept CS (CS.block g hcu.lt (by omega)) (fun hn a ha e => by have := HLb.out hn a ha; omega)
              have H9 : Chg (fun y => y = g ∨ g3 ≤ y) wq (w4.setCell ⟨g3, 1, none⟩ (.slice A8 (k + 1) c8)) := (hch.mono fun y hy => hy.elim (fun e => .inr (HF1.out y e).1) .inl).trans (CS.mono fun y hy => .inr (by omega))
              have HS9 := Lib.hid S9
              have HC9 := Lib.hid C9
              have HH9 := Lib.hid H9
              clear S9 CS C9 H9 q3 hcu hch
              (try simp [depsC, dstAt, kAt, bindE, List.filter_cons, bd_data, bd_chain, bd_guard, bd_phase, bd_text, bd_gc] at hd)
              simp [puts, dsts, Act.put, hd, e37]
              clear hd
              go_wp2_with fail
              exact ⟨rfl, .bool false, HS9.out, HC9.out, HH9.out⟩
          intro f w8 hI hd
          simp only [puts, dsts, Act.put, List.filterMap_cons, List.filterMap_nil, List.setIfInBounds_toArray, List.set_cons_zero, List.set_cons_succ]
          obtain ⟨hI8, hC8, hch⟩ := hI
          have I8 := Lib.hid hI8
          have C8 := Lib.hid hC8
          have B8 := Lib.hid (hB.out.chg hch (fun e => by omega))
          have G8 := Lib.hid (gbC hG.out hch (fun y hy => hy.elim (fun e => .inl (by rw [e])) (fun e => .inr (by omega))))
          clear hI8 hC8 hch hd
          go_wp2_with fail
          go_roundw
          case rel => exact ⟨k + 1, by omega, by go_num, I8, C8, B8, G8⟩
          case measure => simp [intOf]; omega
        · obtain ⟨F, hSF, hF⟩ := hS4
          obtain ⟨vs, B9, ag⟩ := hSF.agg
          obtain ⟨A0, n0, s0, A1, n1, s1, e⟩ := ccircuit_oform ag
          injection e with e
          rw [e] at B9 ag
          have RS := Lib.hid (blk_setCells hB.out [.slice A0 n0 s0, .slice A1 n1 s1] rfl)
          have CH := Lib.hid (chg_setCells w.heap.size [.slice A0 n0 s0, .slice A1 n1 s1] 0 wq)
          have AG := Lib.hid ag
          have HF := Lib.hid hF
          have v0 := B9.cell 0
          have v1 := B9.cell 1
          have b0 := hB.out.cell 0
          have b1 := hB.out.cell 1
          have f0 := hB.out.frozen 0
          have f1 := hB.out.frozen 1
          simp at v0 v1 b0 b1
          clear B9 ag hSF hF e
          go_wp2_with fail
          refine ret_c Try.results86 (by rfl) stCircuit (cs := #[.slice A0 n0 s0, .slice A1 n1 s1]) RS.out (by rfl) (by rfl) ?_
          have h1 := HMI.out
          have h2 := HMK.out
          refine ⟨_, m, rfl, ⟨by omega, fun j hj => HMS.out j (by omega), fun z hz => ?_⟩, by omega, by omega, ⟨F, AG.out.chg CH.out (fun y hy e => by have := HF.out y hy; omega), fun y hy => by have := HF.out y hy; omega⟩, hCu.out.kept CH.out (CH.out.block g hcl (by omega)) (fun hn a ha e => by have := HLb.out hn a ha; omega), gbC hG.out CH.out (fun y hy => .inr (by omega))⟩
          have := HMO.out z hz
          rw [h1]
          simp [inB]
          omega
end Go.Proofs.Ythdfkiaoahpjpaa
