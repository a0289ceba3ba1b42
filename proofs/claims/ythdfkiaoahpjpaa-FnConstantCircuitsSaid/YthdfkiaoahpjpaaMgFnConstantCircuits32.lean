/-
  The simplifier: one gate, a constant.
-/
import Derived.Test.YthdfkiaoahpjpaaMgFnConstantCircuits29
import Derived.Test.YthdfkiaoahpjpaaMgFnConstantCircuits30
import Derived.Test.YthdfkiaoahpjpaaMgFnConstantCircuits31
namespace Go.Proofs.Ythdfkiaoahpjpaa
open Go.RowKit
set_option linter.unusedVariables false
set_option linter.unusedSimpArgs false
theorem gi_disj {w : World} {F0 F1 : List Nat} {v0 v1 : Value} {gs : List Gat} {xs : List Int} (o0 : (cgates gs).own w F0 v0) (o1 : (cints xs).own w F1 v1) : ∀ y ∈ F0, y ∉ F1 := fun y h0 h1 => by
  obtain ⟨cur, e, z, hc, he⟩ := (tyd_plst (Ts := [41]) (by simp)) w F0 _ o0 y h0
  obtain ⟨cur2, e2, z2, hc2, he2⟩ := (tyd_plst (Ts := [3]) (by simp)) w F1 _ o1 y h1
  rw [hc] at hc2
  injection hc2 with hc2
  injection hc2 with _ h3 _
  have he : e = 41 := by simpa using he
  have he2 : e2 = 3 := by simpa using he2
  rw [← h3, he] at he2
  exact absurd he2 (by decide)
def gt2 (L : List Nat) : List Gat := L.map fun (b : Nat) => ((2, (b : Int), 0) : Gat)
theorem gt2_len (L : List Nat) : (gt2 L).length = L.length := by simp [gt2]
theorem gt2_app (L M : List Nat) : gt2 (L ++ M) = gt2 L ++ gt2 M := by simp [gt2]
def addB (L : List Nat) (b : Nat) : List Nat := if b ∈ L then L else L ++ [b]
theorem addB_at (L : List Nat) (b : Nat) : (addB L b)[ixB (addB L b) b]? = some b := by
  refine ixB_mem ?_
  unfold addB
  split
  · assumption
  · simp
theorem addB_pre (L : List Nat) (b : Nat) : ∃ M, addB L b = L ++ M := by
  unfold addB
  split
  · exact ⟨[], by simp⟩
  · exact ⟨[b], rfl⟩
theorem short2 {L : List Nat} (h : ∀ b ∈ L, b ≤ 1) (hn : L.Nodup) : L.length ≤ 2 := by
  match L with
  | [] => simp
  | [_] => simp
  | [_, _] => simp
  | a :: b :: c :: M =>
    exfalso
    have ha := h a (by simp)
    have hb := h b (by simp)
    have hc := h c (by simp)
    simp only [List.nodup_cons, List.mem_cons, not_or] at hn
    obtain ⟨⟨h1, h2, -⟩, ⟨h3, -⟩, -⟩ := hn
    omega
def SimS (lo g mb : Nat) (L : List Nat) (w : World) : Prop :=
  (lo ≤ g ∧ lo ≤ mb) ∧ ((∀ b ∈ L, b ≤ 1) ∧ L.Nodup) ∧ MapG w mb L.length L ∧ ∃ u0 F0, Blk w g 124 #[u0, .map (some mb)] ∧ (cgates (gt2 L)).own w F0 u0 ∧ ∀ x ∈ F0, lo ≤ x
section
variable {lo g mb : Nat} {L : List Nat} {w w' : World}
theorem SimS.chg {S : Nat → Prop} (h : SimS lo g mb L w) (k : Chg S w w') (hS : ∀ y, S y → ∃ us, Blk w y 3 us) : SimS lo g mb L w' := by
  obtain ⟨h1, h2, h3, u0, F0, hb, o0, l0⟩ := h
  refine ⟨h1, h2, h3.chg k (fun hs => ?_), u0, F0, hb.chg k (fun hs => ?_), own_chgK _ o0 k (fun x hx hs => ?_), l0⟩
  · obtain ⟨us, B⟩ := hS _ hs
    obtain ⟨es, clock, hm⟩ := h3.isMap
    unfold Blk at B
    rw [hm] at B
    injection B with B
    cases B
  · obtain ⟨us, B⟩ := hS _ hs
    unfold Blk at B hb
    rw [hb] at B
    injection B with B
    injection B with _ B _
    exact absurd B (by decide)
  · obtain ⟨us, B⟩ := hS x hs
    exact own_ty (Ts := [41]) (tyd_plst (by simp)) o0 B (by decide) hx
theorem SimS.grow (h : SimS lo g mb L w) (k : w.grownBy w' none) : SimS lo g mb L w' := h.chg (S := fun _ => False) (Chg.of k (by simp)) (fun y hy => hy.elim)
end
def GtP (w5 : World) (F0 : List Nat) (L : List Nat) (b : Nat) (v : Value) (w' : World) : Prop := ∃ A' c' F', v = .slice A' (L.length + 1) c' ∧ (cgates (gt2 (L ++ [b]))).own w' F' (.slice A' (L.length + 1) c') ∧ Chg (fun y => y ∈ F0) w5 w' ∧ ∀ y ∈ F', y ∈ F0 ∨ w5.heap.size ≤ y
set_option maxHeartbeats 1600000 in
set_option maxRecDepth 100000 in
theorem simGate_c (L : List Nat) (lo g mb b : Nat) (hb1 : b ≤ 1) (w : World) (h : SimS lo g mb L w) (hlo : lo ≤ w.heap.size) :
    Calls Try.prog 98 #[.pointer (some ⟨g, 0, none⟩), .int .i64 2, .int .i64 b, .int .i64 0] w fun e w' => e = .returned (.int .i64 (ixB (addB L b) b : Nat)) ∧ SimS lo g mb (addB L b) w' ∧ Chg (GBT 124 lo w) w w' := by
  obtain ⟨wa, hwa⟩ : ∃ x : World, w.alloc (.cells #[.int .i64 2, .int .i64 b, .int .i64 0] 41) = x := ⟨_, rfl⟩
  have ga : w.grownBy wa none := by rw [← hwa]; exact gbA (gbR _ _) _
  have B1 : Hid (Blk wa w.heap.size 41 #[.int .i64 2, .int .i64 b, .int .i64 0]) := by rw [← hwa]; exact Lib.hid (Blk.new w _ _)
  have hza : wa.heap.size = w.heap.size + 1 := by rw [← hwa]; simp
  obtain ⟨⟨hg, hmb⟩, ⟨hL, hN⟩, hm, u0, F0, hb, o0, l0⟩ := h
  obtain ⟨A, c, e0, hFi, hrow⟩ := plst_row (s := 3) (fun _ => rfl) (by omega) o0
  rw [gt2_len] at e0
  subst e0
  have hL2 := short2 hL hN
  have hgs : g < w.heap.size := hb.lt
  have gne : g ∉ F0 := own_ty (Ts := [41]) (tyd_plst (by simp)) o0 hb (by decide)
  have sne : w.heap.size ∉ F0 := fun hx => absurd (CS.lt _ o0 _ hx) (Nat.lt_irrefl _)
  have hmlt := hm.lt
  replace hb := hb.grow ga
  replace o0 := own_growK _ o0 ga
  replace hm := MapG.off hm ga (by simp)
  clear hFi hrow
  have v0 := hb.cell 0
  have v1 := hb.cell 1
  simp at v0 v1
  have W0 := Lib.hid v0
  have W1 := Lib.hid v1
  have G1 := Lib.hid ga
  have HW1 := Lib.hid hwa
  have HM := Lib.hid hm
  have HB := Lib.hid hb
  have O0 := Lib.hid o0
  have L0 := Lib.hid l0
  have HL := Lib.hid hL
  have HN := Lib.hid hN
  have GN := Lib.hid gne
  have SN := Lib.hid sne
  clear ga hwa v0 v1 hm hb o0 l0 hL hN gne sne
  go_enter Try.func98, Try.ntmps98
  go_wp2_with fail
  rw [HW1.out]
  by_cases hm : b ∈ L
  · have AB : Hid (addB L b = L) := by unfold addB; rw [if_pos hm]; exact Lib.hid rfl
    refine region_reg6 [onT 17 (isV (.pointer (some ⟨g, 0, none⟩))),
       onT 18 (isV (.pointer (some ⟨g, 0, none⟩))),
       onT 19 (isV (.pointer (some ⟨g, 1, none⟩))),
       onT 20 (isV (.map (some mb))),
       onT 21 (isV (.agg #[.int .i64 2, .int .i64 b, .int .i64 0])),
       onT 22 (isV (.tuple #[.int .i64 (ixB L b : Nat), .bool true])),
       onT 16 (isV (.tuple #[.int .i64 (ixB L b : Nat), .bool true])),
       onT 23 (isV (.int .i64 (ixB L b : Nat))),
       onT 24 (isV (.bool true)),
       onT 10 (isV (.int .i64 (ixB L b : Nat))),
       onT 11 (isV (.bool true))] [] (by kernel_rfl) (by kernel_rfl) (by kernel_rfl) ?_ ?_ ?_
    · exact stF_cons (stableF_on (isV_st _)) (stF_cons (stableF_on (isV_st _)) (stF_cons (stableF_on (isV_st _)) (stF_cons (stableF_on (isV_st _)) (stF_cons (stableF_on (isV_st _)) (stF_cons (stableF_on (isV_st _)) (stF_cons (stableF_on (isV_st _)) (stF_cons (stableF_on (isV_st _)) (stF_cons (stableF_on (isV_st _)) (stF_cons (stableF_on (isV_st _)) (stF_cons (stableF_on (isV_st _)) stF_nil))))))))))
    · simp only [hops6, and_true]
      refine ⟨?_, ?_, ?_, ?_, ?_, ?_, ?_, ?_, ?_, ?_, ?_⟩
      · intro f w1 hG hpre hold hd
        have hg4 := gbT (gbD (gbR wa none)) (gb0 hG)
        clear hG hpre hold
        (try simp [depsF, bindE, List.filter_cons, bd_data, bd_chain, bd_guard, bd_phase, bd_text, bd_gc, fAt, onT_at, isV] at hd)
        first | simp [puts, dsts, Act.put, hd] | simp [puts, dsts, Act.put]
        try clear hd
        go_wp2_with fail
        exact ⟨_, rfl, by simp [fAt, onT_at, upd_some, isV], Or.inl (gbR _ _)⟩
      · intro f w1 hG hpre hold hd
        have hg4 := gbT (gbD (gbR wa none)) (gb0 hG)
        clear hG hpre hold
        (try simp [depsF, bindE, List.filter_cons, bd_data, bd_chain, bd_guard, bd_phase, bd_text, bd_gc, fAt, onT_at, isV] at hd)
        first | simp [puts, dsts, Act.put, hd] | simp [puts, dsts, Act.put]
        try clear hd
        go_wp2_with fail
        exact ⟨_, rfl, by simp [fAt, onT_at, upd_some, isV], Or.inl (gbR _ _)⟩
      · intro f w1 hG hpre hold hd
        have hg4 := gbT (gbD (gbR wa none)) (gb0 hG)
        clear hG hpre hold
        (try simp [depsF, bindE, List.filter_cons, bd_data, bd_chain, bd_guard, bd_phase, bd_text, bd_gc, fAt, onT_at, isV] at hd)
        first | simp [puts, dsts, Act.put, hd] | simp [puts, dsts, Act.put]
        try clear hd
        go_wp2_with fail
        exact ⟨_, rfl, by simp [fAt, onT_at, upd_some, isV], Or.inl (gbR _ _)⟩
      · intro f w1 hG hpre hold hd
        have hg4 := gbT (gbD (gbR wa none)) (gb0 hG)
        clear hG hpre hold
        have k0 := gbk hg4 (W1.out)
        (try simp [depsF, bindE, List.filter_cons, bd_data, bd_chain, bd_guard, bd_phase, bd_text, bd_gc, fAt, onT_at, isV] at hd)
        first | simp [puts, dsts, Act.put, hd] | simp [puts, dsts, Act.put]
        try clear hd
        go_wp2_with fail
        exact ⟨_, rfl, by simp [fAt, onT_at, upd_some, isV], Or.inl (gbR _ _)⟩
      · intro f w1 hG hpre hold hd
        have hg4 := gbT (gbD (gbR wa none)) (gb0 hG)
        clear hG hpre hold
        have k1 := gbk hg4 (B1.out.cell 0)
        have k2 := gbk hg4 (B1.out.cell 1)
        have k3 := gbk hg4 (B1.out.cell 2)
        (try simp [depsF, bindE, List.filter_cons, bd_data, bd_chain, bd_guard, bd_phase, bd_text, bd_gc, fAt, onT_at, isV] at hd)
        first | simp [puts, dsts, Act.put, hd] | simp [puts, dsts, Act.put]
        try clear hd
        go_wp2_with fail
        exact ⟨_, rfl, by simp [fAt, onT_at, upd_some, isV], Or.inl (gbR _ _)⟩
      · intro f w1 hG hpre hold hd
        have hg4 := gbT (gbD (gbR wa none)) (gb0 hG)
        clear hG hpre hold
        (try simp [depsF, bindE, List.filter_cons, bd_data, bd_chain, bd_guard, bd_phase, bd_text, bd_gc, fAt, onT_at, isV] at hd)
        first | simp [puts, dsts, Act.put, hd] | simp [puts, dsts, Act.put]
        try clear hd
        have M5 := MapG.off HM.out hg4 (by simp)
        have q := M5.yes hb1 hm
        unfold gvB at q
        go_wp2_with fail
        exact ⟨_, rfl, by simp [fAt, onT_at, upd_some, isV], Or.inl (gbR _ _)⟩
      · intro f w1 hG hpre hold hd
        have hg4 := gbT (gbD (gbR wa none)) (gb0 hG)
        clear hG hpre hold
        (try simp [depsF, bindE, List.filter_cons, bd_data, bd_chain, bd_guard, bd_phase, bd_text, bd_gc, fAt, onT_at, isV] at hd)
        first | simp [puts, dsts, Act.put, hd] | simp [puts, dsts, Act.put]
        try clear hd
        go_wp2_with fail
        exact ⟨_, rfl, by simp [fAt, onT_at, upd_some, isV], Or.inl (gbR _ _)⟩
      · intro f w1 hG hpre hold hd
        have hg4 := gbT (gbD (gbR wa none)) (gb0 hG)
        clear hG hpre hold
        (try simp [depsF, bindE, List.filter_cons, bd_data, bd_chain, bd_guard, bd_phase, bd_text, bd_gc, fAt, onT_at, isV] at hd)
        first | simp [puts, dsts, Act.put, hd] | simp [puts, dsts, Act.put]
        try clear hd
        go_wp2_with fail
        exact ⟨_, rfl, by simp [fAt, onT_at, upd_some, isV], Or.inl (gbR _ _)⟩
      · intro f w1 hG hpre hold hd
        have hg4 := gbT (gbD (gbR wa none)) (gb0 hG)
        clear hG hpre hold
        (try simp [depsF, bindE, List.filter_cons, bd_data, bd_chain, bd_guard, bd_phase, bd_text, bd_gc, fAt, onT_at, isV] at hd)
        first | simp [puts, dsts, Act.put, hd] | simp [puts, dsts, Act.put]
        try clear hd
        go_wp2_with fail
        exact ⟨_, rfl, by simp [fAt, onT_at, upd_some, isV], Or.inl (gbR _ _)⟩
      · intro f w1 hG hpre hold hd
        have hg4 := gbT (gbD (gbR wa none)) (gb0 hG)
        clear hG hpre hold
        (try simp [depsF, bindE, List.filter_cons, bd_data, bd_chain, bd_guard, bd_phase, bd_text, bd_gc, fAt, onT_at, isV] at hd)
        first | simp [puts, dsts, Act.put, hd] | simp [puts, dsts, Act.put]
        try clear hd
        go_wp2_with fail
        exact ⟨_, rfl, by simp [fAt, onT_at, upd_some, isV], Or.inl (gbR _ _)⟩
      · intro f w1 hG hpre hold hd
        have hg4 := gbT (gbD (gbR wa none)) (gb0 hG)
        clear hG hpre hold
        (try simp [depsF, bindE, List.filter_cons, bd_data, bd_chain, bd_guard, bd_phase, bd_text, bd_gc, fAt, onT_at, isV] at hd)
        first | simp [puts, dsts, Act.put, hd] | simp [puts, dsts, Act.put]
        try clear hd
        go_wp2_with fail
        exact ⟨_, rfl, by simp [fAt, onT_at, upd_some, isV], Or.inl (gbR _ _)⟩
    intro f w5 hG hK
    have g5 := gbT (gbD (gbR wa none)) (gb0 hG)
    clear hG
    simp only [puts, dsts, Act.put, List.filterMap_cons, List.filterMap_nil, List.setIfInBounds_toArray, List.set_cons_zero, List.set_cons_succ]
    have h10 : f 10 = .int .i64 (ixB L b : Nat) := knowsF_get hK (i := 9) rfl
    have h11 : f 11 = .bool true := knowsF_get hK (i := 10) rfl
    clear hK
    rw [h10, h11]
    clear h10 h11
    go_wp2_with fail
    have M5 := MapG.off HM.out g5 (by simp)
    refine bodyPost_ret (v := .int .i64 (ixB L b : Nat)) (by simp [results, Try.results98]) rfl ?_
    rw [AB.out]
    exact ⟨rfl, ⟨⟨hg, hmb⟩, ⟨HL.out, HN.out⟩, M5, _, F0, HB.out.grow g5, own_growK _ O0.out g5, L0.out⟩, GBT.grow (gbT G1.out g5)⟩
  · have AB : Hid (addB L b = L ++ [b]) := by unfold addB; rw [if_neg hm]; exact Lib.hid rfl
    refine region_reg6 [onT 17 (isV (.pointer (some ⟨g, 0, none⟩))),
       onT 18 (isV (.pointer (some ⟨g, 0, none⟩))),
       onT 19 (isV (.pointer (some ⟨g, 1, none⟩))),
       onT 20 (isV (.map (some mb))),
       onT 21 (isV (.agg #[.int .i64 2, .int .i64 b, .int .i64 0])),
       onT 22 (isV (.tuple #[.int .i64 0, .bool false])),
       onT 16 (isV (.tuple #[.int .i64 0, .bool false])),
       onT 23 (isV (.int .i64 0)),
       onT 24 (isV (.bool false)),
       onT 10 (isV (.int .i64 0)),
       onT 11 (isV (.bool false))] [] (by kernel_rfl) (by kernel_rfl) (by kernel_rfl) ?_ ?_ ?_
    · exact stF_cons (stableF_on (isV_st _)) (stF_cons (stableF_on (isV_st _)) (stF_cons (stableF_on (isV_st _)) (stF_cons (stableF_on (isV_st _)) (stF_cons (stableF_on (isV_st _)) (stF_cons (stableF_on (isV_st _)) (stF_cons (stableF_on (isV_st _)) (stF_cons (stableF_on (isV_st _)) (stF_cons (stableF_on (isV_st _)) (stF_cons (stableF_on (isV_st _)) (stF_cons (stableF_on (isV_st _)) stF_nil))))))))))
    · simp only [hops6, and_true]
      refine ⟨?_, ?_, ?_, ?_, ?_, ?_, ?_, ?_, ?_, ?_, ?_⟩
      · intro f w1 hG hpre hold hd
        have hg4 := gbT (gbD (gbR wa none)) (gb0 hG)
        clear hG hpre hold
        (try simp [depsF, bindE, List.filter_cons, bd_data, bd_chain, bd_guard, bd_phase, bd_text, bd_gc, fAt, onT_at, isV] at hd)
        first | simp [puts, dsts, Act.put, hd] | simp [puts, dsts, Act.put]
        try clear hd
        go_wp2_with fail
        exact ⟨_, rfl, by simp [fAt, onT_at, upd_some, isV], Or.inl (gbR _ _)⟩
      · intro f w1 hG hpre hold hd
        have hg4 := gbT (gbD (gbR wa none)) (gb0 hG)
        clear hG hpre hold
        (try simp [depsF, bindE, List.filter_cons, bd_data, bd_chain, bd_guard, bd_phase, bd_text, bd_gc, fAt, onT_at, isV] at hd)
        first | simp [puts, dsts, Act.put, hd] | simp [puts, dsts, Act.put]
        try clear hd
        go_wp2_with fail
        exact ⟨_, rfl, by simp [fAt, onT_at, upd_some, isV], Or.inl (gbR _ _)⟩
      · intro f w1 hG hpre hold hd
        have hg4 := gbT (gbD (gbR wa none)) (gb0 hG)
        clear hG hpre hold
        (try simp [depsF, bindE, List.filter_cons, bd_data, bd_chain, bd_guard, bd_phase, bd_text, bd_gc, fAt, onT_at, isV] at hd)
        first | simp [puts, dsts, Act.put, hd] | simp [puts, dsts, Act.put]
        try clear hd
        go_wp2_with fail
        exact ⟨_, rfl, by simp [fAt, onT_at, upd_some, isV], Or.inl (gbR _ _)⟩
      · intro f w1 hG hpre hold hd
        have hg4 := gbT (gbD (gbR wa none)) (gb0 hG)
        clear hG hpre hold
        have k0 := gbk hg4 (W1.out)
        (try simp [depsF, bindE, List.filter_cons, bd_data, bd_chain, bd_guard, bd_phase, bd_text, bd_gc, fAt, onT_at, isV] at hd)
        first | simp [puts, dsts, Act.put, hd] | simp [puts, dsts, Act.put]
        try clear hd
        go_wp2_with fail
        exact ⟨_, rfl, by simp [fAt, onT_at, upd_some, isV], Or.inl (gbR _ _)⟩
      · intro f w1 hG hpre hold hd
        have hg4 := gbT (gbD (gbR wa none)) (gb0 hG)
        clear hG hpre hold
        have k1 := gbk hg4 (B1.out.cell 0)
        have k2 := gbk hg4 (B1.out.cell 1)
        have k3 := gbk hg4 (B1.out.cell 2)
        (try simp [depsF, bindE, List.filter_cons, bd_data, bd_chain, bd_guard, bd_phase, bd_text, bd_gc, fAt, onT_at, isV] at hd)
        first | simp [puts, dsts, Act.put, hd] | simp [puts, dsts, Act.put]
        try clear hd
        go_wp2_with fail
        exact ⟨_, rfl, by simp [fAt, onT_at, upd_some, isV], Or.inl (gbR _ _)⟩
      · intro f w1 hG hpre hold hd
        have hg4 := gbT (gbD (gbR wa none)) (gb0 hG)
        clear hG hpre hold
        (try simp [depsF, bindE, List.filter_cons, bd_data, bd_chain, bd_guard, bd_phase, bd_text, bd_gc, fAt, onT_at, isV] at hd)
        first | simp [puts, dsts, Act.put, hd] | simp [puts, dsts, Act.put]
        try clear hd
        have M5 := MapG.off HM.out hg4 (by simp)
        have q := M5.no hb1 hm
        unfold gvB at q
        go_wp2_with fail
        exact ⟨_, rfl, by simp [fAt, onT_at, upd_some, isV], Or.inl (gbR _ _)⟩
      · intro f w1 hG hpre hold hd
        have hg4 := gbT (gbD (gbR wa none)) (gb0 hG)
        clear hG hpre hold
        (try simp [depsF, bindE, List.filter_cons, bd_data, bd_chain, bd_guard, bd_phase, bd_text, bd_gc, fAt, onT_at, isV] at hd)
        first | simp [puts, dsts, Act.put, hd] | simp [puts, dsts, Act.put]
        try clear hd
        go_wp2_with fail
        exact ⟨_, rfl, by simp [fAt, onT_at, upd_some, isV], Or.inl (gbR _ _)⟩
      · intro f w1 hG hpre hold hd
        have hg4 := gbT (gbD (gbR wa none)) (gb0 hG)
        clear hG hpre hold
        (try simp [depsF, bindE, List.filter_cons, bd_data, bd_chain, bd_guard, bd_phase, bd_text, bd_gc, fAt, onT_at, isV] at hd)
        first | simp [puts, dsts, Act.put, hd] | simp [puts, dsts, Act.put]
        try clear hd
        go_wp2_with fail
        exact ⟨_, rfl, by simp [fAt, onT_at, upd_some, isV], Or.inl (gbR _ _)⟩
      · intro f w1 hG hpre hold hd
        have hg4 := gbT (gbD (gbR wa none)) (gb0 hG)
        clear hG hpre hold
        (try simp [depsF, bindE, List.filter_cons, bd_data, bd_chain, bd_guard, bd_phase, bd_text, bd_gc, fAt, onT_at, isV] at hd)
        first | simp [puts, dsts, Act.put, hd] | simp [puts, dsts, Act.put]
        try clear hd
        go_wp2_with fail
        exact ⟨_, rfl, by simp [fAt, onT_at, upd_some, isV], Or.inl (gbR _ _)⟩
      · intro f w1 hG hpre hold hd
        have hg4 := gbT (gbD (gbR wa none)) (gb0 hG)
        clear hG hpre hold
        (try simp [depsF, bindE, List.filter_cons, bd_data, bd_chain, bd_guard, bd_phase, bd_text, bd_gc, fAt, onT_at, isV] at hd)
        first | simp [puts, dsts, Act.put, hd] | simp [puts, dsts, Act.put]
        try clear hd
        go_wp2_with fail
        exact ⟨_, rfl, by simp [fAt, onT_at, upd_some, isV], Or.inl (gbR _ _)⟩
      · intro f w1 hG hpre hold hd
        have hg4 := gbT (gbD (gbR wa none)) (gb0 hG)
        clear hG hpre hold
        (try simp [depsF, bindE, List.filter_cons, bd_data, bd_chain, bd_guard, bd_phase, bd_text, bd_gc, fAt, onT_at, isV] at hd)
        first | simp [puts, dsts, Act.put, hd] | simp [puts, dsts, Act.put]
        try clear hd
        go_wp2_with fail
        exact ⟨_, rfl, by simp [fAt, onT_at, upd_some, isV], Or.inl (gbR _ _)⟩
    intro f w5 hG hK
    have g5 := gbT (gbD (gbR wa none)) (gb0 hG)
    clear hG
    simp only [puts, dsts, Act.put, List.filterMap_cons, List.filterMap_nil, List.setIfInBounds_toArray, List.set_cons_zero, List.set_cons_succ]
    have h10 : f 10 = .int .i64 0 := knowsF_get hK (i := 9) rfl
    have h11 : f 11 = .bool false := knowsF_get hK (i := 10) rfl
    clear hK
    have W5 := Lib.hid (gbk g5 W0.out)
    have X5 := Lib.hid (gbk g5 W1.out)
    have B5 := Lib.hid (B1.out.grow g5)
    have O5 := Lib.hid (own_growK _ O0.out g5)
    have M5 := Lib.hid (MapG.off HM.out g5 (by simp))
    have HB5 := Lib.hid (HB.out.grow g5)
    have G5 := Lib.hid (gbT G1.out g5)
    have hz5 := g5.size
    have F5 := Lib.hid (HB5.out.frozen 0)
    clear g5 W0 W1 B1 O0 HM HB G1
    rw [h10, h11]
    clear h10 h11
    go_wp2_with fail
    refine region_chainT [.rd (.pointer (some ⟨g, 0, none⟩)), .rd (.pointer (some ⟨g, 0, none⟩)), .rd (.pointer (some ⟨g, 0, none⟩)), .rd (.pointer (some ⟨g, 0, none⟩)), .rd (.slice A L.length c), .rd (.agg #[.int .i64 2, .int .i64 b, .int .i64 0]), .ch, .ch, .rd (.pointer (some ⟨g, 0, none⟩)), .rd (.pointer (some ⟨g, 0, none⟩)), .ch] (fun y => y ∈ F0)
      [⟨[], fun _ w' => w' = w5.drew⟩,
       ⟨[33], fun l w' => w' = w5.drew.alloc (.cells #[.int .i64 2, .int .i64 b, .int .i64 0] 41) ∧ l.getD 0 undef = .slice (some ⟨w5.heap.size, 0, none⟩) 1 1⟩,
       ⟨[34], fun l w' => GtP w5 F0 L b (l.getD 0 undef) w'⟩,
       ⟨[], fun _ w' => ∃ v wc, GtP w5 F0 L b v wc ∧ w' = wc.setCell ⟨g, 0, none⟩ v⟩]
      (by kernel_rfl) (by kernel_rfl) (by kernel_rfl) 3 (by kernel_rfl) (by simp only [flOk, and_true]) rfl rfl ?_ ?_
    · simp only [hopsK, hopK, Kd.next, and_true]
      refine ⟨?_, ?_, ?_, ?_, ?_, ?_, ?_, ?_, ?_, ?_, ?_⟩
      · intro f w4 hG hd
        (try simp [depsC, dstAt, kAt, bindE, List.filter_cons, bd_data, bd_chain, bd_guard, bd_phase, bd_text, bd_gc] at hd)
        (first | simp [puts, dsts, Act.put, hd] | simp [puts, dsts, Act.put])
        clear hd
        go_wp2_with fail
        exact ⟨rfl, rfl⟩
      · intro f w4 hG hd
        (try simp [depsC, dstAt, kAt, bindE, List.filter_cons, bd_data, bd_chain, bd_guard, bd_phase, bd_text, bd_gc] at hd)
        (first | simp [puts, dsts, Act.put, hd] | simp [puts, dsts, Act.put])
        clear hd
        go_wp2_with fail
        exact ⟨rfl, rfl⟩
      · intro f w4 hG hd
        (try simp [depsC, dstAt, kAt, bindE, List.filter_cons, bd_data, bd_chain, bd_guard, bd_phase, bd_text, bd_gc] at hd)
        (first | simp [puts, dsts, Act.put, hd] | simp [puts, dsts, Act.put])
        clear hd
        go_wp2_with fail
        exact ⟨rfl, rfl⟩
      · intro f w4 hG hd
        (try simp [depsC, dstAt, kAt, bindE, List.filter_cons, bd_data, bd_chain, bd_guard, bd_phase, bd_text, bd_gc] at hd)
        (first | simp [puts, dsts, Act.put, hd] | simp [puts, dsts, Act.put])
        clear hd
        go_wp2_with fail
        exact ⟨rfl, rfl⟩
      · intro f w4 hG hd
        have b5 := hG.cell (gbk (gbD (gbR w5 none)) W5.out) (by simp; omega) GN.out
        (try simp [depsC, dstAt, kAt, bindE, List.filter_cons, bd_data, bd_chain, bd_guard, bd_phase, bd_text, bd_gc] at hd)
        (first | simp [puts, dsts, Act.put, hd] | simp [puts, dsts, Act.put])
        clear hd
        go_wp2_with fail
        exact ⟨rfl, rfl⟩
      · intro f w4 hG hd
        have b5 := hG.cell (gbk (gbD (gbR w5 none)) (B5.out.cell 0)) (by simp; omega) SN.out
        have b6 := hG.cell (gbk (gbD (gbR w5 none)) (B5.out.cell 1)) (by simp; omega) SN.out
        have b7 := hG.cell (gbk (gbD (gbR w5 none)) (B5.out.cell 2)) (by simp; omega) SN.out
        (try simp [depsC, dstAt, kAt, bindE, List.filter_cons, bd_data, bd_chain, bd_guard, bd_phase, bd_text, bd_gc] at hd)
        (first | simp [puts, dsts, Act.put, hd] | simp [puts, dsts, Act.put])
        clear hd
        go_wp2_with fail
        exact ⟨rfl, rfl⟩
      · intro f w4 hG hI hd
        have hI : w4 = w5.drew := hI
        subst hI
        (try simp [depsC, dstAt, kAt, bindE, List.filter_cons, bd_data, bd_chain, bd_guard, bd_phase, bd_text, bd_gc] at hd)
        (first | simp [puts, dsts, Act.put, hd] | simp [puts, dsts, Act.put])
        clear hd
        go_wp2_with fail
        exact ⟨_, rfl, ⟨rfl, rfl⟩, ⟨Chg.of (gbA (gbR _ none) _) (by simp), by simp [keepsC, dstAt]⟩⟩
      · intro f w4 hG hI hd
        obtain ⟨rfl, e33⟩ := hI
        have e33 : f 33 = .slice (some ⟨w5.heap.size, 0, none⟩) 1 1 := e33
        (try simp [depsC, dstAt, kAt, bindE, List.filter_cons, bd_data, bd_chain, bd_guard, bd_phase, bd_text, bd_gc] at hd)
        simp [puts, dsts, Act.put, hd, e33]
        clear hd e33
        refine wp_pushGt w5.drew w5.heap.size rfl rfl (.tmp 31) (.tmp 33) rfl 2 b 0 A L.length c (gt2 L) F0 (own_growK _ O5.out (gbD (gbR w5 none))) (gt2_len L) rfl rfl (by omega) ?_
        intro A8 c8 w9 F8 O8 C8 S8
        go_wp2_with fail
        have O8' : (cgates (gt2 (L ++ [b]))).own w9 F8 (.slice A8 (L.length + 1) c8) := by rw [gt2_app]; exact O8.out
        refine ⟨_, rfl, ⟨A8, c8, F8, rfl, O8', (Chg.of (S := fun y => y ∈ F0) (gbA (gbD (gbR w5 none)) _) (by simp)).trans C8.out, S8.out⟩, ⟨C8.out, by simp [keepsC, dstAt]⟩⟩
      · intro f w4 hG hd
        (try simp [depsC, dstAt, kAt, bindE, List.filter_cons, bd_data, bd_chain, bd_guard, bd_phase, bd_text, bd_gc] at hd)
        (first | simp [puts, dsts, Act.put, hd] | simp [puts, dsts, Act.put])
        clear hd
        go_wp2_with fail
        exact ⟨rfl, rfl⟩
      · intro f w4 hG hd
        (try simp [depsC, dstAt, kAt, bindE, List.filter_cons, bd_data, bd_chain, bd_guard, bd_phase, bd_text, bd_gc] at hd)
        (first | simp [puts, dsts, Act.put, hd] | simp [puts, dsts, Act.put])
        clear hd
        go_wp2_with fail
        exact ⟨rfl, rfl⟩
      · intro f w4 hG hI hd
        obtain ⟨A8, c8, F8, e34, o8, k8, s8⟩ := hI
        have e34 : f 34 = .slice A8 (L.length + 1) c8 := e34
        have q0 := k8.cell W5.out (by omega) GN.out
        have q1 := k8.frozen F5.out (by omega) GN.out
        have O8 := Lib.hid o8
        have K8 := Lib.hid k8
        have S8 := Lib.hid s8
        clear o8 k8 s8
        (try simp [depsC, dstAt, kAt, bindE, List.filter_cons, bd_data, bd_chain, bd_guard, bd_phase, bd_text, bd_gc] at hd)
        simp [puts, dsts, Act.put, hd, e34]
        clear hd
        go_wp2_with fail
        exact ⟨rfl, .bool false, _, w4, ⟨A8, c8, F8, rfl, O8.out, K8.out, S8.out⟩, rfl⟩
    intro f w6 hI hd
    simp only [puts, dsts, Act.put, List.filterMap_cons, List.filterMap_nil, List.setIfInBounds_toArray, List.set_cons_zero, List.set_cons_succ]
    obtain ⟨v, wc, ⟨A8, c8, F8, rfl, o8, k8, s8⟩, rfl⟩ := hI
    clear hd
    have hbc := HB5.out.chg k8 GN.out
    have CS := chgS wc g 0 (.slice A8 (L.length + 1) c8)
    have kz := k8.size
    have fne : g ∉ F8 := own_ty (Ts := [41]) (tyd_plst (by simp)) o8 hbc (by decide)
    have hlF : ∀ y ∈ F8, lo ≤ y := fun y hy => (s8 y hy).elim (fun e => L0.out y e) (fun e => by omega)
    obtain ⟨wd, hwd⟩ : ∃ x : World, wc.setCell ⟨g, 0, none⟩ (.slice A8 (L.length + 1) c8) = x := ⟨_, rfl⟩
    have HBd : Hid (Blk wd g 124 #[.slice A8 (L.length + 1) c8, .map (some mb)]) := by rw [← hwd]; exact Lib.hid (by simpa using hbc.set_ 0 (.slice A8 (L.length + 1) c8))
    rw [hwd] at CS ⊢
    have Od := Lib.hid (own_chgK _ o8 CS (fun z hz e => fne (by rw [← e]; exact hz)))
    have KD := (k8.mono (T := fun y => y = g ∨ y ∈ F0) (fun y hy => .inr hy)).trans (CS.mono (T := fun y => y = g ∨ y ∈ F0) (fun y hy => .inl hy))
    obtain ⟨es, ck, hme⟩ := M5.out.isMap
    have mne : mb ∉ F0 := fun hx => by
      obtain ⟨cur, e, z, hc, he⟩ := (tyd_plst (Ts := [41]) (by simp)) w5 F0 _ O5.out mb hx
      rw [hme] at hc
      cases hc
    have mng : mb ≠ g := fun hx => by
      have h5 := HB5.out
      unfold Blk at h5
      rw [← hx, hme] at h5
      cases h5
    have md := MapG.chg M5.out KD (fun e => e.elim mng mne)
    obtain ⟨es, ck, hmd⟩ := md.isMap
    have mn8 : mb ∉ F8 := fun hx => by
      obtain ⟨cur, e, z, hc, he⟩ := (tyd_plst (Ts := [41]) (by simp)) wd F8 _ Od.out mb hx
      rw [hmd] at hc
      cases hc
    have bd := B5.out.chg KD (fun e => e.elim (fun e => by omega) (fun e => SN.out e))
    have kk : Chg (GBT 124 lo w5) w5 wd := KD.mono fun y hy => hy.elim (fun e => by
      subst e
      refine ⟨hg, fun cur e z hc => .inl ?_⟩
      have h5 := HB5.out
      unfold Blk at h5
      rw [h5] at hc
      injection hc with hc
      injection hc with _ h3 _
      exact h3.symm) (fun e => by
      refine ⟨L0.out y e, fun cur e2 z hc => .inr ?_⟩
      obtain ⟨cur2, e3, z2, hc2, he2⟩ := (tyd_plst (Ts := [41]) (by simp)) w5 F0 _ O5.out y e
      rw [hc2] at hc
      injection hc with hc
      injection hc with _ h3 _
      rw [← h3]
      simpa using he2)
    have km : GBT 124 lo w5 mb := ⟨hmb, fun cur e z hc => by rw [hme] at hc; cases hc⟩
    have d0 := Lib.hid (HBd.out.cell 0)
    have d1 := Lib.hid (HBd.out.cell 1)
    have KK := Lib.hid kk
    have KM := Lib.hid km
    have MD := Lib.hid md
    have BD := Lib.hid bd
    have MNG := Lib.hid mng
    have MN8 := Lib.hid mn8
    have HLF := Lib.hid hlF
    have KDZ := KD.size
    clear KD kk km md bd mne hme hmd mng mn8 hlF fne hwd CS hbc s8 o8 k8 W5 X5 B5 O5 M5 HB5 F5
    go_wp2_with fail
    refine region_chain [.rd (.pointer (some ⟨g, 0, none⟩)), .rd (.pointer (some ⟨g, 0, none⟩)), .rd (.pointer (some ⟨g, 1, none⟩)), .rd (.map (some mb)), .rd (.agg #[.int .i64 2, .int .i64 b, .int .i64 0]), .rd (.pointer (some ⟨g, 0, none⟩)), .rd (.pointer (some ⟨g, 0, none⟩)), .rd (.pointer (some ⟨g, 0, none⟩)), .rd (.slice A8 (L.length + 1) c8), .rd (.int .i64 (L.length + 1 : Nat)), .rd (.int .i64 (L.length : Nat)), .ch] (fun _ => False)
      [⟨[], fun _ w' => wd.drew.grownBy w' none⟩,
       ⟨[], fun _ w' => MapG w' mb (L.length + 1) (L ++ [b]) ∧ wd.grownBy w' (some mb)⟩]
      (by kernel_rfl) (by kernel_rfl) (by kernel_rfl) 1 (by kernel_rfl) (by simp only [flOk, and_true]) (gbR _ _) rfl ?_ ?_
    · simp only [hopsK, hopK, Kd.next, and_true]
      refine ⟨?_, ?_, ?_, ?_, ?_, ?_, ?_, ?_, ?_, ?_, ?_, ?_⟩
      · intro f w4 hG hd
        have hg4 := gbT (gbD (gbR wd none)) (chgF hG)
        (try simp [depsC, dstAt, kAt, bindE, List.filter_cons, bd_data, bd_chain, bd_guard, bd_phase, bd_text, bd_gc] at hd)
        (first | simp [puts, dsts, Act.put, hd] | simp [puts, dsts, Act.put])
        clear hd
        go_wp2_with fail
        exact ⟨rfl, rfl⟩
      · intro f w4 hG hd
        have hg4 := gbT (gbD (gbR wd none)) (chgF hG)
        (try simp [depsC, dstAt, kAt, bindE, List.filter_cons, bd_data, bd_chain, bd_guard, bd_phase, bd_text, bd_gc] at hd)
        (first | simp [puts, dsts, Act.put, hd] | simp [puts, dsts, Act.put])
        clear hd
        go_wp2_with fail
        exact ⟨rfl, rfl⟩
      · intro f w4 hG hd
        have hg4 := gbT (gbD (gbR wd none)) (chgF hG)
        (try simp [depsC, dstAt, kAt, bindE, List.filter_cons, bd_data, bd_chain, bd_guard, bd_phase, bd_text, bd_gc] at hd)
        (first | simp [puts, dsts, Act.put, hd] | simp [puts, dsts, Act.put])
        clear hd
        go_wp2_with fail
        exact ⟨rfl, rfl⟩
      · intro f w4 hG hd
        have hg4 := gbT (gbD (gbR wd none)) (chgF hG)
        have k1 := gbk hg4 (d1.out)
        (try simp [depsC, dstAt, kAt, bindE, List.filter_cons, bd_data, bd_chain, bd_guard, bd_phase, bd_text, bd_gc] at hd)
        (first | simp [puts, dsts, Act.put, hd] | simp [puts, dsts, Act.put])
        clear hd
        go_wp2_with fail
        exact ⟨rfl, rfl⟩
      · intro f w4 hG hd
        have hg4 := gbT (gbD (gbR wd none)) (chgF hG)
        have k2 := gbk hg4 (BD.out.cell 0)
        have k3 := gbk hg4 (BD.out.cell 1)
        have k4 := gbk hg4 (BD.out.cell 2)
        (try simp [depsC, dstAt, kAt, bindE, List.filter_cons, bd_data, bd_chain, bd_guard, bd_phase, bd_text, bd_gc] at hd)
        (first | simp [puts, dsts, Act.put, hd] | simp [puts, dsts, Act.put])
        clear hd
        go_wp2_with fail
        exact ⟨rfl, rfl⟩
      · intro f w4 hG hd
        have hg4 := gbT (gbD (gbR wd none)) (chgF hG)
        (try simp [depsC, dstAt, kAt, bindE, List.filter_cons, bd_data, bd_chain, bd_guard, bd_phase, bd_text, bd_gc] at hd)
        (first | simp [puts, dsts, Act.put, hd] | simp [puts, dsts, Act.put])
        clear hd
        go_wp2_with fail
        exact ⟨rfl, rfl⟩
      · intro f w4 hG hd
        have hg4 := gbT (gbD (gbR wd none)) (chgF hG)
        (try simp [depsC, dstAt, kAt, bindE, List.filter_cons, bd_data, bd_chain, bd_guard, bd_phase, bd_text, bd_gc] at hd)
        (first | simp [puts, dsts, Act.put, hd] | simp [puts, dsts, Act.put])
        clear hd
        go_wp2_with fail
        exact ⟨rfl, rfl⟩
      · intro f w4 hG hd
        have hg4 := gbT (gbD (gbR wd none)) (chgF hG)
        (try simp [depsC, dstAt, kAt, bindE, List.filter_cons, bd_data, bd_chain, bd_guard, bd_phase, bd_text, bd_gc] at hd)
        (first | simp [puts, dsts, Act.put, hd] | simp [puts, dsts, Act.put])
        clear hd
        go_wp2_with fail
        exact ⟨rfl, rfl⟩
      · intro f w4 hG hd
        have hg4 := gbT (gbD (gbR wd none)) (chgF hG)
        have k0 := gbk hg4 (d0.out)
        (try simp [depsC, dstAt, kAt, bindE, List.filter_cons, bd_data, bd_chain, bd_guard, bd_phase, bd_text, bd_gc] at hd)
        (first | simp [puts, dsts, Act.put, hd] | simp [puts, dsts, Act.put])
        clear hd
        go_wp2_with fail
        exact ⟨rfl, rfl⟩
      · intro f w4 hG hd
        have hg4 := gbT (gbD (gbR wd none)) (chgF hG)
        (try simp [depsC, dstAt, kAt, bindE, List.filter_cons, bd_data, bd_chain, bd_guard, bd_phase, bd_text, bd_gc] at hd)
        (first | simp [puts, dsts, Act.put, hd] | simp [puts, dsts, Act.put])
        clear hd
        go_wp2_with fail
        exact ⟨rfl, rfl⟩
      · intro f w4 hG hd
        have hg4 := gbT (gbD (gbR wd none)) (chgF hG)
        (try simp [depsC, dstAt, kAt, bindE, List.filter_cons, bd_data, bd_chain, bd_guard, bd_phase, bd_text, bd_gc] at hd)
        (first | simp [puts, dsts, Act.put, hd] | simp [puts, dsts, Act.put])
        clear hd
        go_wp2_with fail
        exact ⟨rfl, rfl⟩
      · intro f w4 hG hI hd
        have hg4 := gbT (gbD (gbR wd none)) (chgF hG)
        have hz4 := hg4.size
        (try simp [depsC, dstAt, kAt, bindE, List.filter_cons, bd_data, bd_chain, bd_guard, bd_phase, bd_text, bd_gc] at hd)
        simp [puts, dsts, Act.put, hd]
        clear hd
        refine wp_putG w4 rfl (.tmp 40) (.tmp 41) (.tmp 47) rfl mb L.length L (MapG.off MD.out hg4 (by simp)) rfl b hb1 hm rfl (by omega) rfl (by unfold maxLen; omega) ?_
        intro w6 hM6 hg6
        have HM6 := Lib.hid hM6
        have HG6 := Lib.hid hg6
        clear hM6 hg6
        go_wp2_with fail
        exact ⟨rfl, undef, HM6.out, gbT (gbW hg4) HG6.out⟩
    intro f we hI hd
    simp only [puts, dsts, Act.put, List.filterMap_cons, List.filterMap_nil, List.setIfInBounds_toArray, List.set_cons_zero, List.set_cons_succ]
    obtain ⟨hM, hG⟩ := hI
    clear hd
    have cE : Chg (fun y => y = mb) wd we := Chg.of hG (fun y h => by injection h with h; exact h.symm)
    have HBe := Lib.hid (HBd.out.chg cE (fun e => MNG.out e.symm))
    have Oe := Lib.hid (own_chgK _ Od.out cE (fun x hx e => MN8.out (by rw [← e]; exact hx)))
    have e0 := HBe.out.cell 0
    simp at e0
    have HME := Lib.hid hM
    have CE := Lib.hid cE
    clear hM hG cE
    go_wp2_with fail
    refine bodyPost_ret (v := .int .i64 (L.length : Nat)) (by simp [results, Try.results98]) rfl ?_
    rw [AB.out, ixB_new hm]
    refine ⟨rfl, ⟨⟨hg, hmb⟩, ⟨fun x hx => ?_, ?_⟩, ?_, _, F8, HBe.out, Oe.out, HLF.out⟩, GBT.trans (GBT.grow G5.out) (KK.out.trans (CE.out.mono fun y hy => by rw [hy]; exact KM.out))⟩
    · rcases List.mem_append.1 hx with h | h
      · exact HL.out x h
      · simp at h
        omega
    · rw [List.nodup_append]
      exact ⟨HN.out, by simp, fun x hx y hy => by simp at hy; subst hy; intro e; subst e; exact hm hx⟩
    · rw [List.length_append]
      exact HME.out
end Go.Proofs.Ythdfkiaoahpjpaa
