/-
  A region that draws its order and holds an access to memory: what is known of each operation.
-/
import Derived.Test.YthncoohkdmjcaaaMgFnMemory43
import Derived.Test.YthncoohkdmjcaaaMgFnMemory11
namespace Go.Proofs.Ythncoohkdmjcaaa
open Go.RowKit
set_option linter.unusedVariables false
set_option linter.unusedSimpArgs false
/-- A memory of one's own, above lo: this one. -/
def memF (lo : Nat) (m : OM) (V : Value) (w : World) : Prop := ∃ F, AggO w (coram m) F V ∧ ∀ y ∈ F, lo ≤ y
theorem memF_st {lo : Nat} {m : OM} : stable (memF lo m) := fun v w w' ⟨F, h1, h2⟩ hg => ⟨F, h1.grow hg, h2⟩
def tupF (lo : Nat) (m : OM) (x y : Int) (b : Bool) (v : Value) (w : World) : Prop := ∃ V, v = .tuple #[V, .int .i64 x, .int .i64 y, .bool b] ∧ memF lo m V w
theorem tupF_st {lo : Nat} {m : OM} {x y : Int} {b : Bool} : stable (tupF lo m x y b) := fun v w w' ⟨V, h1, h2⟩ hg => ⟨V, h1, memF_st _ _ _ h2 hg⟩
/-- A pointer to a memory. -/
def ptM (lo : Nat) (m : OM) (v : Value) (w : World) : Prop := ∃ g, v = .pointer (some ⟨g, 0, none⟩) ∧ OSE lo g m w
theorem ptM_st {lo : Nat} {m : OM} : stable (ptM lo m) := fun v w w' ⟨g, h1, h2⟩ hg => ⟨g, h1, h2.grow hg⟩
theorem memF.put {lo : Nat} {m : OM} {V : Value} {w : World} {g : Nat} {cs : Array Value} (h : memF lo m V w) (B : Blk w g 36 cs) (u0 u1 u2 : Value) : memF lo m V (((w.setCell ⟨g, 0, none⟩ u0).setCell ⟨g, 1, none⟩ u1).setCell ⟨g, 2, none⟩ u2) := by
  obtain ⟨F, h1, h2⟩ := h
  exact ⟨F, h1.chg (chgS3 w g u0 u1 u2) (fun y hy e => agg_ne h1 B (e ▸ hy)), h2⟩
theorem tupF.put {lo : Nat} {m : OM} {x y : Int} {b : Bool} {v : Value} {w : World} {g : Nat} {cs : Array Value} (h : tupF lo m x y b v w) (B : Blk w g 36 cs) (u0 u1 u2 : Value) : tupF lo m x y b v (((w.setCell ⟨g, 0, none⟩ u0).setCell ⟨g, 1, none⟩ u1).setCell ⟨g, 2, none⟩ u2) := by
  obtain ⟨V, h1, h2⟩ := h
  exact ⟨V, h1, h2.put B u0 u1 u2⟩
/-- A pointer to a struct of three cells of one's own. -/
def ptAny (lo : Nat) (v : Value) (w : World) : Prop := ∃ g, v = .pointer (some ⟨g, 0, none⟩) ∧ lo ≤ g ∧ ∃ a b c, Blk w g 36 #[a, b, c]
theorem ptAny_st {lo : Nat} : stable (ptAny lo) := fun v w w' ⟨g, h1, h2, a, b, c, h3⟩ hg => ⟨g, h1, h2, a, b, c, h3.grow hg⟩
theorem ptAny.put {lo : Nat} {v : Value} {w : World} {g : Nat} {a b c : Value} (h : ptAny lo v w) (B : Blk w g 36 #[a, b, c]) (u0 u1 u2 : Value) : ptAny lo v (((w.setCell ⟨g, 0, none⟩ u0).setCell ⟨g, 1, none⟩ u1).setCell ⟨g, 2, none⟩ u2) := by
  obtain ⟨g', h1, h2, x, y, z, h3⟩ := h
  by_cases e : g' = g
  · subst e
    exact ⟨g', h1, h2, u0, u1, u2, fill3 h3 rfl _ _ _⟩
  · exact ⟨g', h1, h2, x, y, z, h3.chg (chgS3 w g u0 u1 u2) e⟩
end Go.Proofs.Ythncoohkdmjcaaa
/-
  OramSizes: reference and program.
-/
namespace Go.Proofs.Ythncoohkdmjcaaa
open Go.RowKit
set_option linter.unusedVariables false
set_option linter.unusedSimpArgs false
def osz (m : OM) (k : Nat) : List Int := (m.bk.take k).map fun l => (l.length : Int)
def osizes (m : OM) : List Int := osz m m.bk.length ++ [(m.st.length : Int)]
theorem osz_succ (m : OM) (k : Nat) (x : Bks) (h : m.bk[k]? = some x) : osz m (k + 1) = osz m k ++ [(x.length : Int)] := by
  obtain ⟨hk, rfl⟩ := List.getElem?_eq_some_iff.1 h
  unfold osz
  rw [List.take_succ_eq_append_getElem hk, List.map_append]
  rfl
theorem osizes_len (m : OM) : (osizes m).length = m.bk.length + 1 := by simp [osizes, osz]
/-- A row of numbers that is new. -/
def RowJ (r : List Int) (w : World) (e : Ending) (w' : World) : Prop := ∃ V, e = .returned V ∧ w'.ownsRow w.heap.size 3 1 V r.length (r.map (Value.int .i64)) ∧ w.grownBy w' none
theorem RowJ.own {r : List Int} {w w' : World} {e : Ending} (h : RowJ r w e w') : ∃ V F, e = .returned V ∧ (cints r).own w' F V ∧ (∀ g ∈ F, w.heap.size ≤ g) ∧ w.grownBy w' none := by
  obtain ⟨V, h1, h2, h3⟩ := h
  exact ⟨V, _, h1, cints_own h2, fun g hg => (h2.lt g (by simpa using hg)).1, h3⟩
set_option maxRecDepth 100000 in
set_option maxHeartbeats 2000000 in
theorem specOramSizes_c (m : OM) (v : Value) (w : World) (h : AggR w (coram m) v) (hz : m.sz ≤ 1048576) :
    Calls Try.prog 22 #[v] w (RowJ (osizes m) w) := by
  obtain ⟨u0, u1, u2, rfl, h0, h1, h2⟩ := coram_open h
  obtain ⟨A0, c0, rfl, hc0, hm0⟩ := cbs_rd h0
  obtain ⟨A1, c1, rfl, hc1, hm1, _⟩ := plst_rd (s := 2) (fun _ => rfl) (by omega) h1
  have H0 := Lib.hid h0
  clear h h0 h1 h2
  have hn1 : m.bk.length ≤ 1048576 := by unfold OM.sz szB at hz; omega
  have hR : Hid (osizes m = osz m m.bk.length ++ [(m.st.length : Int)]) := rfl
  obtain ⟨n, hn⟩ : ∃ n, m.bk.length = n := ⟨_, rfl⟩
  obtain ⟨q, hq⟩ : ∃ q, m.st.length = q := ⟨_, rfl⟩
  have HL := Lib.hid (osizes_len m)
  have HQ := Lib.hid hq
  rw [hn] at H0 hc0 hn1 hR HL ⊢
  rw [hq] at hc1 hR ⊢
  clear hz
  have B1 := Lib.hid (Blk.new w 36 #[.slice A0 n c0, .slice A1 q c1, u2])
  have G1 := Lib.hid (gbA (gbR w none) (.cells #[.slice A0 n c0, .slice A1 q c1, u2] 36))
  have O2 := Lib.hid (World.ownsRow_made (e := 3) (size := 1) (base := w.heap.size + 1) (w.alloc (.cells #[.slice A0 n c0, .slice A1 q c1, u2] 36)) #[] 0 (by simp) (by simp) rfl)
  have B3 := Lib.hid (B1.out.grow (gbA (gbR _ none) (.cells #[] 3)))
  have G3 := Lib.hid (gbA G1.out (.cells #[] 3))
  clear B1 G1
  have c0' := B3.out.cell 0
  simp at c0'
  go_enter Try.func22, Try.ntmps22
  go_wp2_with fail
  clear c0'
  go_loopw [3, 4] (fun s i wr => ∃ k : Nat, k ≤ n ∧ i = .int .i64 k ∧ Hid (wr.ownsRow (w.heap.size + 1) 3 1 s k ((osz m k).map (Value.int .i64))) ∧ Hid (Blk wr w.heap.size 36 #[.slice A0 n c0, .slice A1 q c1, u2]) ∧ Hid (w.grownBy wr none)) (fun _ i _ => n - (intOf i).toNat)
  case atStart => exact ⟨0, Nat.zero_le _, rfl, by unfold Hid; have o := O2.out; simpa [osz] using o, B3.out, G3.out⟩
  case round =>
    clear O2 B3 G3
    obtain ⟨k, hk, rfl, hown, hB, hG⟩ := hrel
    obtain ⟨S, sc, rfl, _, _⟩ := own_form hown.out
    have d0 := hB.out.cell 0
    have d1 := hB.out.cell 1
    simp at d0 d1
    by_cases hlt : k < n
    · obtain ⟨b, o, x, u, rfl, hb, hx, hcell, hu⟩ := cbs_at (CS.grow _ H0.out hG.out) hlt
      obtain ⟨Ax, cx, rfl, hcx, hmx, _⟩ := plst_rd (s := 2) (fun _ => rfl) (by omega) hu
      have i1 : (k : Int) < (n : Int) := by omega
      have HDS : Hid (osz m (k + 1) = osz m k ++ [(x.length : Int)]) := osz_succ m k x hx
      obtain ⟨y, hy⟩ : ∃ y, x.length = y := ⟨_, rfl⟩
      rw [hy] at hcell hcx HDS
      clear hx hu
      have OW := Lib.hid hown.out
      have BW := Lib.hid hB.out
      have GW := Lib.hid hG.out
      have hsz := hB.out.lt
      clear hown hB hG
      go_wp2_with (at_builtin; refine wp_append1h _ wr.heap.size rfl el_int rfl (.tmp 13) (.tmp 20) rfl _ rfl (by simp [Value.oneCell']) (w.heap.size + 1) _ k _ OW.out rfl rfl (by unfold maxLen; omega) (by omega) (by omega) ?_; intro v' w5 hown5 hgrow5)
      have h1 : Hid (w5.ownsRow (w.heap.size + 1) 3 1 v' (k + 1) ((osz m (k + 1)).map (Value.int .i64))) := by unfold Hid; rw [HDS.out]; simpa using hown5
      have h2 := Lib.hid (BW.out.grown hgrow5 (fun e => by have := (OW.out.lt _ e.symm).1; omega))
      have h3 := Lib.hid (gbN GW.out hgrow5 fun g e => by have := (OW.out.lt g e).1; omega)
      clear hown5 hgrow5 OW BW GW
      go_wp2_with fail
      go_roundw
      case rel => exact ⟨k + 1, by omega, by go_num, h1, h2.out, h3.out⟩
      case measure => simp [intOf]; omega
    · have e : k = n := by omega
      subst e
      have i1 : ¬ (k : Int) < (k : Int) := by omega
      have OW := Lib.hid hown.out
      have GW := Lib.hid hG.out
      have hsz := hB.out.lt
      clear hown hB hG
      go_wp2_with (at_builtin; refine wp_append1h _ wr.heap.size rfl el_int rfl (.tmp 22) (.tmp 26) rfl _ rfl (by simp [Value.oneCell']) (w.heap.size + 1) _ k _ OW.out rfl rfl (by unfold maxLen; omega) (by omega) (by omega) ?_; intro v' w5 hown5 hgrow5)
      have h1 : Hid (w5.ownsRow w.heap.size 3 1 v' (k + 1) ((osizes m).map (Value.int .i64))) := by unfold Hid; rw [hR.out]; exact own_base (by simpa using hown5 : w5.ownsRow (w.heap.size + 1) 3 1 v' (k + 1) ((osz m k ++ [(q : Int)]).map (Value.int .i64))) (by omega)
      have h3 := Lib.hid (gbN GW.out hgrow5 fun g e => by have := (OW.out.lt g e).1; omega)
      clear hown5 hgrow5 OW GW
      go_wp2_with fail
      go_ret
      exact ⟨v', rfl, by rw [HL.out]; exact h1.out, h3.out⟩
set_option maxRecDepth 100000 in
set_option maxHeartbeats 2000000 in
theorem implOramSizes_c (m : OM) (v : Value) (w : World) (h : AggR w (coram m) v) (hz : m.sz ≤ 1048576) :
    Calls Try.prog 24 #[v] w (RowJ (osizes m) w) := by
  obtain ⟨u0, u1, u2, rfl, h0, h1, h2⟩ := coram_open h
  obtain ⟨A0, c0, rfl, hc0, hm0⟩ := cbs_rd h0
  obtain ⟨A1, c1, rfl, hc1, hm1, _⟩ := plst_rd (s := 2) (fun _ => rfl) (by omega) h1
  have H0 := Lib.hid h0
  clear h h0 h1 h2
  have hn1 : m.bk.length ≤ 1048576 := by unfold OM.sz szB at hz; omega
  have hR : Hid (osizes m = osz m m.bk.length ++ [(m.st.length : Int)]) := rfl
  obtain ⟨n, hn⟩ : ∃ n, m.bk.length = n := ⟨_, rfl⟩
  obtain ⟨q, hq⟩ : ∃ q, m.st.length = q := ⟨_, rfl⟩
  have HL := Lib.hid (osizes_len m)
  have HQ := Lib.hid hq
  rw [hn] at H0 hc0 hn1 hR HL ⊢
  rw [hq] at hc1 hR ⊢
  clear hz
  have B1 := Lib.hid (Blk.new w 36 #[.slice A0 n c0, .slice A1 q c1, u2])
  have G1 := Lib.hid (gbA (gbR w none) (.cells #[.slice A0 n c0, .slice A1 q c1, u2] 36))
  have O2 := Lib.hid (World.ownsRow_made (e := 3) (size := 1) (base := w.heap.size + 1) (w.alloc (.cells #[.slice A0 n c0, .slice A1 q c1, u2] 36)) #[] 0 (by simp) (by simp) rfl)
  have B3 := Lib.hid (B1.out.grow (gbA (gbR _ none) (.cells #[] 3)))
  have G3 := Lib.hid (gbA G1.out (.cells #[] 3))
  clear B1 G1
  have c0' := B3.out.cell 0
  simp at c0'
  go_enter Try.func24, Try.ntmps24
  go_wp2_with fail
  clear c0'
  go_loopw [3, 10] (fun s i wr => ∃ k : Nat, k ≤ n ∧ i = .int .i64 k ∧ Hid (wr.ownsRow (w.heap.size + 1) 3 1 s k ((osz m k).map (Value.int .i64))) ∧ Hid (Blk wr w.heap.size 36 #[.slice A0 n c0, .slice A1 q c1, u2]) ∧ Hid (w.grownBy wr none)) (fun _ i _ => n - (intOf i).toNat)
  case atStart => exact ⟨0, Nat.zero_le _, rfl, by unfold Hid; have o := O2.out; simpa [osz] using o, B3.out, G3.out⟩
  case round =>
    clear O2 B3 G3
    obtain ⟨k, hk, rfl, hown, hB, hG⟩ := hrel
    obtain ⟨S, sc, rfl, _, _⟩ := own_form hown.out
    have d0 := hB.out.cell 0
    have d1 := hB.out.cell 1
    simp at d0 d1
    by_cases hlt : k < n
    · obtain ⟨b, o, x, u, rfl, hb, hx, hcell, hu⟩ := cbs_at (CS.grow _ H0.out hG.out) hlt
      obtain ⟨Ax, cx, rfl, hcx, hmx, _⟩ := plst_rd (s := 2) (fun _ => rfl) (by omega) hu
      have i1 : (k : Int) < (n : Int) := by omega
      have HDS : Hid (osz m (k + 1) = osz m k ++ [(x.length : Int)]) := osz_succ m k x hx
      obtain ⟨y, hy⟩ : ∃ y, x.length = y := ⟨_, rfl⟩
      rw [hy] at hcell hcx HDS
      clear hx hu
      have OW := Lib.hid hown.out
      have BW := Lib.hid hB.out
      have GW := Lib.hid hG.out
      have hsz := hB.out.lt
      clear hown hB hG
      go_wp2_with (at_builtin; refine wp_append1h _ wr.heap.size rfl el_int rfl (.tmp 14) (.tmp 17) rfl _ rfl (by simp [Value.oneCell']) (w.heap.size + 1) _ k _ OW.out rfl rfl (by unfold maxLen; omega) (by omega) (by omega) ?_; intro v' w5 hown5 hgrow5)
      have h1 : Hid (w5.ownsRow (w.heap.size + 1) 3 1 v' (k + 1) ((osz m (k + 1)).map (Value.int .i64))) := by unfold Hid; rw [HDS.out]; simpa using hown5
      have h2 := Lib.hid (BW.out.grown hgrow5 (fun e => by have := (OW.out.lt _ e.symm).1; omega))
      have h3 := Lib.hid (gbN GW.out hgrow5 fun g e => by have := (OW.out.lt g e).1; omega)
      clear hown5 hgrow5 OW BW GW
      go_wp2_with fail
      go_roundw
      case rel => exact ⟨k + 1, by omega, by go_num, h1, h2.out, h3.out⟩
      case measure => simp [intOf]; omega
    · have e : k = n := by omega
      subst e
      have i1 : ¬ (k : Int) < (k : Int) := by omega
      have OW := Lib.hid hown.out
      have GW := Lib.hid hG.out
      have hsz := hB.out.lt
      clear hown hB hG
      go_wp2_with (at_builtin; refine wp_append1h _ wr.heap.size rfl el_int rfl (.tmp 20) (.tmp 24) rfl _ rfl (by simp [Value.oneCell']) (w.heap.size + 1) _ k _ OW.out rfl rfl (by unfold maxLen; omega) (by omega) (by omega) ?_; intro v' w5 hown5 hgrow5)
      have h1 : Hid (w5.ownsRow w.heap.size 3 1 v' (k + 1) ((osizes m).map (Value.int .i64))) := by unfold Hid; rw [hR.out]; exact own_base (by simpa using hown5 : w5.ownsRow (w.heap.size + 1) 3 1 v' (k + 1) ((osz m k ++ [(q : Int)]).map (Value.int .i64))) (by omega)
      have h3 := Lib.hid (gbN GW.out hgrow5 fun g e => by have := (OW.out.lt g e).1; omega)
      clear hown5 hgrow5 OW GW
      go_wp2_with fail
      go_ret
      exact ⟨v', rfl, by rw [HL.out]; exact h1.out, h3.out⟩
end Go.Proofs.Ythncoohkdmjcaaa
/-
  Laws of oblivious memory: what their walks share.
-/
namespace Go.Proofs.Ythncoohkdmjcaaa
open Go.RowKit
set_option linter.unusedVariables false
set_option linter.unusedSimpArgs false
theorem accB_yes {m : OM} {id value leaf : Int} (hm : OOk m) (h : 0 ≤ id ∧ id ≤ 11) (hv : 0 ≤ value ∧ value ≤ 4294967295) (hl : 0 ≤ leaf ∧ leaf ≤ 7) : accB m id value leaf = true := by
  unfold accB inR wordB
  rw [oramB_yes hm]
  simp
  omega
theorem implOramAccess_ok (m : OM) (hm : OOk m) (v : Value) (id value leaf : Int) (write : Bool) (w : World) (h : 0 ≤ id ∧ id ≤ 11) (hv : 0 ≤ value ∧ value ≤ 4294967295) (hl : 0 ≤ leaf ∧ leaf ≤ 7) (ha : AggR w (coram m) v) :
    Calls Try.prog 38 #[v, .int .i64 id, .bool write, .int .i64 value, .int .i64 leaf] w fun e w' => ∃ V F, e = .returned (.tuple #[V, .int .i64 (accV m id), .int .i64 (m.leaf id), .bool true]) ∧ AggO w' (coram (acc m id write value leaf)) F V ∧ (∀ y ∈ F, w.heap.size ≤ y) ∧ w.grownBy w' none := by
  have hb := accB_yes hm h hv hl
  refine (implOramAccess_c m v id value leaf write w ha (by have := hm.szle; omega)).mono ?_
  rintro e w' ⟨V, F, rfl, h1, h2, h3⟩
  rw [hb] at h1 ⊢
  exact ⟨V, F, rfl, h1, h2, h3⟩
theorem Blk.ld3 {w : World} {g : Nat} {T : TypeId} {a b c : Value} (h : Blk w g T #[a, b, c]) : w.cell? ⟨g, 0, none⟩ = some a ∧ w.cell? ⟨g, 1, none⟩ = some b ∧ w.cell? ⟨g, 2, none⟩ = some c := by
  have h0 := h.cell 0
  have h1 := h.cell 1
  have h2 := h.cell 2
  simp at h0 h1 h2
  exact ⟨h0, h1, h2⟩
theorem acc_okw {m : OM} {id value leaf : Int} {write : Bool} (hm : OOk m) (h : 0 ≤ id ∧ id ≤ 11) (hv : 0 ≤ value ∧ value ≤ 4294967295) (hl : 0 ≤ leaf ∧ leaf ≤ 7) : OOk (acc m id write value leaf) := acc_ok hm h.1 h.2 hv.1 hv.2 hl.1 hl.2
theorem acc_leaf {m : OM} {i : Nat} {value leaf : Int} {write : Bool} (hm : OOk m) (h : i ≤ 11) : (acc m (i : Int) write value leaf).leaf (i : Int) = leaf := by
  unfold OM.leaf
  rw [acc_pos]
  have := hm.np
  simp [List.getD_eq_getElem?_getD, this, show i < 12 by omega]
theorem leaf_range {m : OM} (hm : OOk m) {i : Nat} (h : i ≤ 11) : 0 ≤ m.leaf (i : Int) ∧ m.leaf (i : Int) ≤ 7 := hm.leaf_in (by omega) (by omega)
theorem path_step {a : Int} (h : 0 ≤ a ∧ a ≤ 7) {j : Nat} (hj : j < 3) : 1 ≤ (opathI a).getD j 0 ∧ (opathI a).getD j 0 ≤ 14 ∧ (opathI a).getD (j + 1) 0 = ((opathI a).getD j 0 - 1) / 2 := by
  have ha : a = 0 ∨ a = 1 ∨ a = 2 ∨ a = 3 ∨ a = 4 ∨ a = 5 ∨ a = 6 ∨ a = 7 := by omega
  have hj' : j = 0 ∨ j = 1 ∨ j = 2 := by omega
  rcases ha with rfl | rfl | rfl | rfl | rfl | rfl | rfl | rfl <;> rcases hj' with rfl | rfl | rfl <;> decide
theorem path_zero {a : Int} (h : 0 ≤ a ∧ a ≤ 7) : (opathI a).getD 0 0 = a + 7 := by
  have ha : a = 0 ∨ a = 1 ∨ a = 2 ∨ a = 3 ∨ a = 4 ∨ a = 5 ∨ a = 6 ∨ a = 7 := by omega
  rcases ha with rfl | rfl | rfl | rfl | rfl | rfl | rfl | rfl <;> decide
/-- The leaves of a memory, as they lie. -/
theorem pos_cells {w : World} {m : OM} {F : List Nat} {u0 u1 : Value} {A : Option Addr} {n c : Nat} (h : AggO w (coram m) F (.agg #[u0, u1, .slice A n c])) (hm : OOk m) : n = 12 ∧ ∃ g, A = some ⟨g, 0, none⟩ ∧ g < w.heap.size ∧ ∀ i, i ≤ 11 → w.cell? ⟨g, i, none⟩ = some (.int .i64 (m.leaf (i : Int))) := by
  obtain ⟨v0, v1, v2, F0, F1, F2, e, rfl, h0, h1, h2, _⟩ := coram_oopen h
  injection e with e
  injection e with e
  injection e with e0 e
  injection e with e1 e
  injection e with e2 e
  subst e2
  obtain ⟨A', c', hv, _, o⟩ := cints_row h2
  have o := o 0 (by simp)
  injection hv with e1 e2 e3
  subst e1 e2 e3
  rw [hm.np] at o
  obtain ⟨g, cc, hv, hc, hb⟩ := own_form2 o (by omega)
  injection hv with e1 e2 e3
  subst e1
  refine ⟨hm.np, g, rfl, (o.lt g rfl).2, fun i hi => ?_⟩
  have hlt : i < m.pos.length := by rw [hm.np]; omega
  rw [o.cellAt i (by omega), List.getElem?_map, List.getElem?_eq_getElem hlt]
  unfold OM.leaf
  rw [Int.toNat_natCast, List.getD_eq_getElem?_getD, List.getElem?_eq_getElem hlt]
  rfl
end Go.Proofs.Ythncoohkdmjcaaa
