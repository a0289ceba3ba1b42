/-
  Copies of a memory.
-/
import Derived.Test.YthncoohkdmjcaaaMgFnMemory12
import Derived.Test.YthncoohkdmjcaaaMgFnMemory15
import Derived.Test.YthncoohkdmjcaaaMgFnMemory23
import Derived.Test.YthncoohkdmjcaaaMgFnMemory6
import Derived.Test.YthncoohkdmjcaaaMgFnMemory18
namespace Go.Proofs.Ythncoohkdmjcaaa
open Go.RowKit
set_option linter.unusedVariables false
set_option linter.unusedSimpArgs false
theorem copyBlocks_c (l : List Bk) (v : Value) (w : World) (h : (cblocks l).rd w v) (hn : l.length ≤ 1099511627776) :
    Calls Try.prog 99 #[v] w fun e w' => ∃ u F, e = .returned u ∧ (cblocks l).own w' F u ∧ (∀ g ∈ F, w.heap.size ≤ g) ∧ w.grownBy w' none := by
  obtain ⟨A, c, rfl, hc, hm, hI⟩ := plst_rd (s := 2) (fun _ => rfl) (by omega) h
  have HI := Lib.hid hI.rd
  have LI := Lib.hid hI.len
  obtain ⟨n, hnn⟩ : ∃ n, l.length = n := ⟨_, rfl⟩
  rw [hnn] at hc hn HI LI ⊢
  clear h hI
  have hr := World.ownsRow_made (e := 90) (size := 2) w #[] 0 (Nat.le_refl _) (by simp) rfl
  go_enter Try.func99, Try.ntmps99
  go_wp2_with (at_builtin; refine wp_appendS _ elBlock rfl (.tmp 3) (.tmp 4) rfl w.heap.size _ 0 [] hr rfl A n c _ rfl (Rd.grow HI.out (gbA (gbR w none) _)) (fun u hu => by obtain ⟨x, _, hx⟩ := List.mem_flatMap.1 hu; exact c2_one x u hx) (by unfold maxLen; omega) (by omega) (by simp) ?_; intro v' w1 hown1 hgrow)
  go_ret
  rw [List.nil_append, Nat.zero_add] at hown1
  exact ⟨v', rfl, _, plst_own (s := 2) (fun _ => rfl) (by omega) c2_one hown1, fun g hg => (hown1.lt g (by simpa using hg)).1, gbN (gbA (gbR w none) _) hgrow fun g e => Nat.le_of_eq (show w.heap.size = g by simpa [Value.ownBlock] using e)⟩
/-- A new row of blocks. -/
def nBl (H : Nat) (l : List Bk) (v : Value) (w : World) : Prop := ∃ F, (cblocks l).own w F v ∧ ∀ x ∈ F, H ≤ x
theorem nBl_st {H : Nat} {l : List Bk} : stable (nBl H l) := fun v w w' ⟨F, h1, h2⟩ hg => ⟨F, own_growK _ h1 hg, h2⟩
def ptN (H : Nat) (T : TypeId) (cs : Array Value) (v : Value) (w : World) : Prop := ∃ g, v = .pointer (some ⟨g, 0, none⟩) ∧ H ≤ g ∧ Blk w g T cs
theorem ptN_st {H : Nat} {T : TypeId} {cs : Array Value} : stable (ptN H T cs) := fun v w w' ⟨g, h1, h2, h3⟩ hg => ⟨g, h1, h2, h3.grow hg⟩
theorem ptN_one {H : Nat} {T : TypeId} {cs : Array Value} (w : World) (hw : H ≤ w.heap.size) : ptN H T cs (.pointer (some ⟨w.heap.size, 0, none⟩)) (w.alloc (.cells cs T)) := ⟨_, rfl, hw, Blk.new w T cs⟩
theorem cbs_nil (w : World) : (cblockss []).own w [] (.slice none 0 0) := ⟨0, [], [], rfl, World.ownsRow_nil w 0 _ 1, OwnAll.nil w, rfl, by simp⟩
theorem own_blk_ne {w : World} {base s n g : Nat} {e T : TypeId} {v : Value} {xs : List Value} {cs : Array Value} (h : w.ownsRow base e s v n xs) (k : Blk w g T cs) (hne : e ≠ T) : v.ownBlock ≠ some g := by
  intro hv
  rcases h.2 with ⟨rfl, _⟩ | ⟨g', cap, cur, rfl, _, hg, _⟩
  · simp [Value.ownBlock] at hv
  · simp [Value.ownBlock] at hv
    subst hv
    unfold Blk at k
    rw [hg] at k
    injection k with k
    injection k with k1 k2
    exact hne k2
theorem cblocks_ne {w : World} {l : List Bk} {v : Value} {F : List Nat} {g : Nat} {T : TypeId} {cs : Array Value} (h : (cblocks l).own w F v) (k : Blk w g T cs) (hne : 90 ≠ T) : g ∉ F := by
  obtain ⟨A, c, e1, e2, e3⟩ := plst_row (s := 2) (fun _ => rfl) (by omega) h
  subst e2
  intro hg
  exact own_blk_ne (e3 0 (by simp)) k hne (by simpa using hg)
theorem cints_ne {w : World} {l : List Int} {v : Value} {F : List Nat} {g : Nat} {T : TypeId} {cs : Array Value} (h : (cints l).own w F v) (k : Blk w g T cs) (hne : 3 ≠ T) : g ∉ F := by
  obtain ⟨A, c, e1, e2, e3⟩ := cints_row h
  subst e2
  intro hg
  exact own_blk_ne (e3 0 (by simp)) k hne (by simpa using hg)
theorem chgS3 (w : World) (g : Nat) (a b c : Value) : Chg (fun x => x = g) w (((w.setCell ⟨g, 0, none⟩ a).setCell ⟨g, 1, none⟩ b).setCell ⟨g, 2, none⟩ c) := ((chgS _ _ _ _).trans (chgS _ _ _ _)).trans (chgS _ _ _ _)
/-- The parts stored into a block of one's own. -/
theorem OS.stored {lo g : Nat} {m : OM} {u0 u1 u2 : Value} {F : List Nat} {w : World} (h : AggO w (coram m) F (.agg #[u0, u1, u2])) (B : Blk w g 36 #[.slice none 0 0, .slice none 0 0, .slice none 0 0]) (hl : ∀ x ∈ F, lo ≤ x) (hg : lo ≤ g) (hn : g ∉ F) :
    OSE lo g m (((w.setCell ⟨g, 0, none⟩ u0).setCell ⟨g, 1, none⟩ u1).setCell ⟨g, 2, none⟩ u2) :=
  OS.made (cs := #[]) (fill3 B rfl _ _ _) (h.chg (chgS3 w g u0 u1 u2) (fun y hy e => hn (e ▸ hy))) hl hg hn
theorem chgNone {W w : World} (h : Chg (fun _ => False) W w) : W.grownBy w none := ⟨h.os, h.tape, h.output, h.size, fun i hi _ => h.block i hi id⟩
def CopyP (m : OM) (w : World) (e : Ending) (w' : World) : Prop := ∃ u F, e = .returned u ∧ AggO w' (coram m) F u ∧ (∀ g ∈ F, w.heap.size ≤ g) ∧ w.grownBy w' none
theorem implcopyOram_c (m : OM) (v : Value) (w : World) (h : AggR w (coram m) v) (hn : m.sz ≤ 1048576) :
    Calls Try.prog 77 #[v] w (CopyP m w) := by
  obtain ⟨u0, u1, u2, rfl, h0, h1, h2⟩ := coram_open h
  obtain ⟨A0, c0, rfl, hc0, hm0⟩ := cbs_rd h0
  obtain ⟨A1, c1, rfl, hc1, hm1, _⟩ := plst_rd (s := 2) (fun _ => rfl) (by omega) h1
  obtain ⟨A2, c2, rfl, hc2, hm2, _⟩ := cints_rd h2
  have HN := Lib.hid hn
  have H0 := Lib.hid h0
  have H1 := Lib.hid h1
  have H2 := Lib.hid h2
  clear h hn h0 h1 h2
  go_enter Try.func77, Try.ntmps77
  go_wp2_with fail
  obtain ⟨x0, e0⟩ : ∃ x : World, x = (w.alloc (.cells #[.slice A0 m.bk.length c0, .slice A1 m.st.length c1, .slice A2 m.pos.length c2] 36)).alloc (.cells #[(.slice none 0 0), (.slice none 0 0), (.slice none 0 0)] 36) := ⟨_, rfl⟩
  have K1 : Hid (Blk x0 w.heap.size 36 #[.slice A0 m.bk.length c0, .slice A1 m.st.length c1, .slice A2 m.pos.length c2]) := by rw [e0]; exact (Blk.new w _ _).grow (gbA (gbR _ _) _)
  have K2 : Hid (Blk x0 (w.heap.size + 1) 36 #[(.slice none 0 0), (.slice none 0 0), (.slice none 0 0)]) := by rw [e0]; exact Blk.new' _ _ _ _ (by simp)
  have G0 : Hid (w.grownBy x0 none) := by rw [e0]; exact gbA (gbA (gbR _ _) _) _
  have Z0 : x0.heap.size = w.heap.size + 1 + 1 := by rw [e0]; simp
  rw [← e0]
  clear e0
  refine region_chain [.rd (.pointer (some ⟨w.heap.size, 1, none⟩)), .rd (.slice A1 m.st.length c1), .ch, .rd (.pointer (some ⟨w.heap.size, 2, none⟩)), .rd (.slice A2 m.pos.length c2), .ch, .ch, .fl (ptN x0.heap.size 36 #[(.slice none 0 0), (.slice none 0 0), (.slice none 0 0)]), .ch] (fun _ => False)
    [noF, onT 8 (nBl x0.heap.size m.st), ⟨[8, 11], fun l w' => ∃ F, (cblocks m.st).own w' F (l.getD 0 undef) ∧ ∃ G, (cints m.pos).own w' G (l.getD 1 undef) ∧ (∀ x ∈ F, x0.heap.size ≤ x) ∧ (∀ x ∈ G, x0.heap.size ≤ x) ∧ ∀ x ∈ F, x ∉ G⟩,
      ⟨[12], fun l w' => ∃ F, AggO w' (coram ⟨[], m.st, m.pos⟩) F (l.getD 0 undef) ∧ ∀ x ∈ F, x0.heap.size ≤ x⟩, ⟨[3], fun l w' => x0.grownBy w' none ∧ ∃ g, l.getD 0 undef = .pointer (some ⟨g, 0, none⟩) ∧ OSE x0.heap.size g ⟨[], m.st, m.pos⟩ w'⟩]
    (by kernel_rfl) (by kernel_rfl) (by kernel_rfl) 4 (by kernel_rfl) ?_ trivial rfl ?_ ?_
  · simp only [flOk, true_and, and_true]
    refine ⟨ptN_st, stF_cons stableF_no (stF_cons (stableF_on nBl_st) (stF_cons ?_ (stF_cons ?_ (stF_cons ?_ stF_nil))))⟩
    · rintro l w1 w2 ⟨F, a1, G, a2, a3, a4, a5⟩ hg
      exact ⟨F, own_growK _ a1 hg, G, own_growK _ a2 hg, a3, a4, a5⟩
    · rintro l w1 w2 ⟨F, a1, a2⟩ hg
      exact ⟨F, a1.grow hg, a2⟩
    · rintro l w1 w2 ⟨a1, g, a2, a3⟩ hg
      exact ⟨gbT a1 hg, g, a2, a3.grow hg⟩
  · simp only [hopsK, hopK, Kd.next, and_true]
    refine ⟨?_, ?_, ?_, ?_, ?_, ?_, ?_, ?_, ?_⟩
    · (intro f w4 hG hd; (try simp [depsC, dstAt, kAt, bindE, List.filter_cons, bd_data, bd_chain, bd_guard, bd_phase, bd_text, bd_gc] at hd); (first | simp [puts, dsts, Act.put, hd] | simp [puts, dsts, Act.put]); go_wp2_with fail; exact ⟨rfl, rfl⟩)
    · intro f w4 hG hd
      (try simp [depsC, dstAt, kAt, bindE, List.filter_cons, bd_data, bd_chain, bd_guard, bd_phase, bd_text, bd_gc] at hd)
      have B4 := (K1.out.grow (gbD (gbR x0 none))).chg hG id
      have b1 := B4.cell 1
      have f1 := B4.frozen 1
      simp at b1
      (first | simp [puts, dsts, Act.put, hd] | simp [puts, dsts, Act.put])
      go_wp2_with fail
      exact ⟨rfl, rfl⟩
    · intro f w4 hG hI hd
      (try simp [depsC, dstAt, kAt, bindE, List.filter_cons, bd_data, bd_chain, bd_guard, bd_phase, bd_text, bd_gc] at hd)
      (first | simp [puts, dsts, Act.put, hd] | simp [puts, dsts, Act.put])
      have GG := gbT (gbD G0.out) (chgNone hG)
      go_wp2_with (go_at_call 99; refine (copyBlocks_c m.st _ _ (CS.grow _ H1.out GG) (by have := HN.out; unfold OM.sz at this; omega)).mono ?_; rintro e w5 ⟨u, F, rfl, o5, l5, g5⟩)
      obtain ⟨B, n', s', rfl⟩ := row_form o5
      refine ⟨_, rfl, ⟨F, o5, fun x hx => Nat.le_trans hG.size (l5 x hx)⟩, ⟨Chg.of g5 (by simp), ?_⟩⟩
      simp [keepsC, dstAt]
      exact fun h => ptN_st _ _ _ h g5
    · (intro f w4 hG hd; (try simp [depsC, dstAt, kAt, bindE, List.filter_cons, bd_data, bd_chain, bd_guard, bd_phase, bd_text, bd_gc] at hd); (first | simp [puts, dsts, Act.put, hd] | simp [puts, dsts, Act.put]); go_wp2_with fail; exact ⟨rfl, rfl⟩)
    · intro f w4 hG hd
      (try simp [depsC, dstAt, kAt, bindE, List.filter_cons, bd_data, bd_chain, bd_guard, bd_phase, bd_text, bd_gc] at hd)
      have B4 := (K1.out.grow (gbD (gbR x0 none))).chg hG id
      have b1 := B4.cell 2
      have f1 := B4.frozen 2
      simp at b1
      (first | simp [puts, dsts, Act.put, hd] | simp [puts, dsts, Act.put])
      go_wp2_with fail
      exact ⟨rfl, rfl⟩
    · intro f w4 hG hI hd
      obtain ⟨F, o8, l8⟩ := hI
      have o8 : (cblocks m.st).own w4 F (f 8) := o8
      (try simp [depsC, dstAt, kAt, bindE, List.filter_cons, bd_data, bd_chain, bd_guard, bd_phase, bd_text, bd_gc] at hd)
      (first | simp [puts, dsts, Act.put, hd] | simp [puts, dsts, Act.put])
      have GG := gbT (gbD G0.out) (chgNone hG)
      have II := cints_rd' (CS.grow _ H2.out GG)
      go_wp2_with (go_at_call 66; refine (ints_c A2 _ c2 m.pos _ II.2.2.2 (by have := HN.out; unfold OM.sz at this; omega)).mono ?_; rintro e w5 ⟨u, rfl, o5, g5⟩)
      have o9 := cints_own o5
      obtain ⟨B, n', s', rfl⟩ := row_form o9
      refine ⟨_, rfl, ⟨F, own_growK _ o8 g5, _, o9, l8, fun x hx => Nat.le_trans hG.size (o5.lt x (by simpa using hx)).1, fun x hx hx' => ?_⟩, ⟨Chg.of g5 (by simp), ?_⟩⟩
      · have h6 := CS.lt _ o8 x hx
        have h7 := (o5.lt x (by simpa using hx')).1
        omega
      · simp [keepsC, dstAt]
        exact fun h => ptN_st _ _ _ h g5
    · intro f w4 hG hI hd
      obtain ⟨F, o8, G, o11, l8, l11, d⟩ := hI
      have o8 : (cblocks m.st).own w4 F (f 8) := o8
      have o11 : (cints m.pos).own w4 G (f 11) := o11
      obtain ⟨B1, n1, s1, e8⟩ := row_form o8
      obtain ⟨B2, n2, s2, e11⟩ := row_form o11
      clear hd
      rw [e8] at o8
      rw [e11] at o11
      simp [puts, dsts, Act.put, e8, e11]
      go_wp2_with fail
      refine ⟨_, rfl, ⟨_, coram_omk (m := ⟨[], m.st, m.pos⟩) (F0 := []) (u0 := .slice none 0 0) (cbs_nil w4) o8 o11 (by simp) (by simp) d, fun x hx => ?_⟩, ⟨Chg.refl _ _, ?_⟩⟩
      · simp at hx
        rcases hx with hx | hx
        · exact l8 x hx
        · exact l11 x hx
      · simp [keepsC, dstAt]
    · intro f w4 hG hd
      clear hd
      simp [puts, dsts, Act.put]
      go_wp2_with fail
      exact ⟨_, rfl, ptN_one w4 hG.size, gbA (gbR _ _) _⟩
    · intro f w4 hG hI hd
      obtain ⟨F, o12, l12⟩ := hI
      have o12 : AggO w4 (coram ⟨[], m.st, m.pos⟩) F (f 12) := o12
      obtain ⟨A0, n0, s0, A1, n1, s1, A2, n2, s2, e12⟩ := coram_oform o12
      (try simp [depsC, dstAt, kAt, bindE, List.filter_cons, bd_data, bd_chain, bd_guard, bd_phase, bd_text, bd_gc] at hd)
      obtain ⟨⟨g, e3, hg, B4⟩, hd⟩ := hd
      rw [e12] at o12
      simp [puts, dsts, Act.put, e3, e12]
      have b0 := B4.cell 0
      have b1 := B4.cell 1
      have b2 := B4.cell 2
      have f0 := B4.frozen 0
      have f1 := B4.frozen 1
      have f2 := B4.frozen 2
      simp at b0 b1 b2
      go_wp2_with fail
      have hn : g ∉ F := by
        obtain ⟨v0, v1, v2, G0, G1, G2, e, rfl, a0, a1, a2, _⟩ := coram_oopen o12
        have h0 : g ∉ G0 := by
          obtain ⟨n, vs, Fs, h1, h2, h3, h4, h5⟩ := a0
          have e1 := (OwnAll.none h3).2
          subst e1
          rw [h4]
          intro hg
          exact own_blk_ne h2 B4 (by decide) (by simpa using hg)
        simp only [List.flatten_cons, List.flatten_nil, List.append_nil, List.mem_append, not_or]
        exact ⟨h0, cblocks_ne a1 B4 (by decide), cints_ne a2 B4 (by decide)⟩
      exact ⟨rfl, .bool false, gbChg (gbT (gbD (gbR x0 none)) (chgNone hG)) (chgS3 _ _ _ _ _) (fun i hi => by rw [hi]; exact hg), g, e3, OS.stored o12 B4 l12 hg hn⟩
  · intro f w4 hI hd
    obtain ⟨g4, g, e3, hos⟩ := hI
    have e3 : f 3 = .pointer (some ⟨g, 0, none⟩) := e3
    simp [knowsC, dstAt] at hd
    simp only [puts, dsts, Act.put, e3, List.filterMap_cons, List.filterMap_nil, List.setIfInBounds_toArray, List.set_cons_zero, List.set_cons_succ]
    have HO := Lib.hid hos
    have G4 := Lib.hid g4
    have X1 := Lib.hid (K1.out.grow g4)
    have P0 := Lib.hid (CS.grow _ H0.out G0.out)
    obtain ⟨n, hnn⟩ : ∃ n, m.bk.length = n := ⟨_, rfl⟩
    obtain ⟨H, hH⟩ : ∃ H, x0.heap.size = H := ⟨_, rfl⟩
    rw [hnn] at X1 hc0 P0
    rw [hH] at HO Z0
    have HH := Lib.hid hH
    have hbn : n ≤ 1048576 := by have := HN.out; unfold OM.sz szB at this; omega
    have LN := Lib.hid hnn
    have b0 := X1.out.cell 0
    have f0 := X1.out.frozen 0
    simp at b0
    clear hd e3 g4 hos K1 hnn hH H0 H1 H2
    have LG := Lib.hid X1.out
    clear X1
    go_wp2_with fail
    go_loopw [16] (fun i wr => ∃ k : Nat, k ≤ n ∧ i = .int .i64 k ∧ Hid (OSE H g ⟨m.bk.take k, m.st, m.pos⟩ wr) ∧ Hid (x0.grownBy wr none)) (fun i _ => n - (intOf i).toNat)
    case atStart => exact ⟨0, Nat.zero_le _, rfl, HO, G4⟩
    case round =>
      obtain ⟨k, hk, rfl, ho, hg⟩ := hrel
      by_cases hlt : k < n
      · have i1 : (k : Int) < (n : Int) := by omega
        obtain ⟨b, o, x, u, rfl, hb, hx, q1, q2⟩ := cbs_at (CS.grow _ P0.out hg.out) hlt
        obtain ⟨V0, V1, V2, F0, F1, F2, hO⟩ := ho.out
        obtain ⟨⟨B0, m0, d0, rfl⟩, ⟨B1, d1, rfl, e1⟩, ⟨B2, d2, rfl, e2⟩⟩ := hO.forms
        obtain ⟨A', c', rfl, _, _⟩ := plst_rd (s := 2) (fun _ => rfl) (by omega) q2
        have Q2 := Lib.hid q2
        have HX := Lib.hid hx
        have HLx : Hid (x.length ≤ 1048576) := by
          have h1 := len_sumL m.bk x (List.mem_of_getElem? hx)
          have h2 := HN.out
          unfold OM.sz szB at h2
          exact Lib.hid (by omega)
        have HO' := Lib.hid hO
        have v0 := hO.blk.cell 0
        have v1 := hO.blk.frozen 0
        simp at v0
        clear q2 hx hO
        go_wp2_with fail
        refine region_chain [.rd (.pointer (some ⟨g, 0, none⟩)), .rd (.slice B0 m0 d0), .rd (.slice A' x.length c'), .ch, .ch, .ch, .rd (.pointer (some ⟨g, 0, none⟩)), .ch] (fun y => (Value.slice B0 m0 d0).ownBlock = some y)
          [⟨[], fun _ w' => w' = wr.drew⟩,
           ⟨[23], fun l w' => wr.drew.grownBy w' none ∧ ∃ F, (cblocks x).own w' F (l.getD 0 undef) ∧ ∀ y ∈ F, wr.heap.size ≤ y⟩,
           ⟨[23, 24], fun l w' => ∃ w5, w' = w5.alloc (.cells #[l.getD 0 undef] 34) ∧ l.getD 1 undef = .slice (some ⟨w5.heap.size, 0, none⟩) 1 1 ∧ wr.drew.grownBy w5 none ∧ ∃ F, (cblocks x).own w5 F (l.getD 0 undef) ∧ ∀ y ∈ F, wr.heap.size ≤ y⟩,
           ⟨[25], fun l w' => Chg (fun y => (Value.slice B0 m0 d0).ownBlock = some y) wr.drew w' ∧ ∃ F, (cblockss (m.bk.take (k + 1))).own w' F (l.getD 0 undef) ∧ ∀ y ∈ F, y ∈ F0 ∨ wr.heap.size ≤ y⟩,
           ⟨[], fun _ w' => x0.grownBy w' none ∧ OSE H g ⟨m.bk.take (k + 1), m.st, m.pos⟩ w'⟩]
          (by kernel_rfl) (by kernel_rfl) (by kernel_rfl) 4 (by kernel_rfl) (by simp only [flOk, and_true]) rfl rfl ?_ ?_
        · simp only [hopsK, hopK, Kd.next, and_true]
          refine ⟨?_, ?_, ?_, ?_, ?_, ?_, ?_, ?_⟩
          · (intro f w4 hG hd; (try simp [depsC, dstAt, kAt, bindE, List.filter_cons, bd_data, bd_chain, bd_guard, bd_phase, bd_text, bd_gc] at hd); (first | simp [puts, dsts, Act.put, hd] | simp [puts, dsts, Act.put]); go_wp2_with fail; exact ⟨rfl, rfl⟩)
          · intro f w4 hG hd
            (try simp [depsC, dstAt, kAt, bindE, List.filter_cons, bd_data, bd_chain, bd_guard, bd_phase, bd_text, bd_gc] at hd)
            have B4 := (HO'.out.blk.grow (gbD (gbR wr none))).chg hG (fun e => HO'.out.n0 (row_ob HO'.out.b e))
            have b0 := B4.cell 0
            have f0 := B4.frozen 0
            simp at b0
            (first | simp [puts, dsts, Act.put, hd] | simp [puts, dsts, Act.put])
            go_wp2_with fail
            exact ⟨rfl, rfl⟩
          · (intro f w4 hG hd; (try simp [depsC, dstAt, kAt, bindE, List.filter_cons, bd_data, bd_chain, bd_guard, bd_phase, bd_text, bd_gc] at hd); (first | simp [puts, dsts, Act.put, hd] | simp [puts, dsts, Act.put]); go_wp2_with fail; exact ⟨rfl, rfl⟩)
          · intro f w4 hG hI hd
            have hI : w4 = wr.drew := hI
            subst hI
            (try simp [depsC, dstAt, kAt, bindE, List.filter_cons, bd_data, bd_chain, bd_guard, bd_phase, bd_text, bd_gc] at hd)
            (first | simp [puts, dsts, Act.put, hd] | simp [puts, dsts, Act.put])
            go_wp2_with (go_at_call 99; refine (copyBlocks_c x _ _ (CS.grow _ Q2.out (gbD (gbR _ _))) (by have := HLx.out; omega)).mono ?_; rintro e w5 ⟨u, F, rfl, o5, l5, g5⟩)
            obtain ⟨B, n', s', rfl⟩ := row_form o5
            refine ⟨_, rfl, ⟨g5, F, o5, l5⟩, ⟨Chg.of g5 (by simp), ?_⟩⟩
            simp [keepsC]
          · intro f w5 hG hI hd
            obtain ⟨g5, F, o5, l5⟩ := hI
            have o5 : (cblocks x).own w5 F (f 23) := o5
            obtain ⟨B, n', s', e23⟩ := row_form o5
            clear hd
            simp [puts, dsts, Act.put, e23]
            go_wp2_with fail
            refine ⟨_, rfl, ⟨w5, by rw [← e23]; rfl, rfl, g5, F, o5, l5⟩, ⟨Chg.of (gbA (gbR _ none) _) (by simp), ?_⟩⟩
            simp [keepsC]
          · intro f w6 hG hI hd
            obtain ⟨w5, rfl, e24, g5, F, o5, l5⟩ := hI
            have o5 : (cblocks x).own w5 F (f 23) := o5
            have e24 : f 24 = .slice (some ⟨w5.heap.size, 0, none⟩) 1 1 := e24
            obtain ⟨B, n', s', e23⟩ := row_form o5
            (try simp [depsC, dstAt, kAt, bindE, List.filter_cons, bd_data, bd_chain, bd_guard, bd_phase, bd_text, bd_gc] at hd)
            simp [puts, dsts, Act.put, hd, e23, e24]
            have hlw := CS.lt _ HO'.out.b
            have hs5 := g5.size
            obtain ⟨n9, vs, hl9, hown, hob, hpush⟩ := row_push (own_growK _ (own_growK _ HO'.out.b (gbD (gbR wr none))) g5)
            have hn9 : n9 = k := by
              have := LN.out
              rw [cbs_flat] at hl9
              simp at hl9
              omega
            subst hn9
            refine wp_appendG w5 w5.heap.size rfl elBlockS rfl (.tmp 21) (.tmp 24) rfl #[f 23] rfl (by rw [e23]; simp [Value.oneCell']) 0 (.slice B0 m0 d0) n9 vs hown rfl rfl (by unfold maxLen; omega) (by omega) (Nat.zero_le _) ?_
            intro v' w7 o7 g7a k7
            have g7 := gbT (gbA (gbR w5 _) _) g7a
            have o5' : (cblocks x).own w7 F (f 23) := own_chgK _ o5 (Chg.of (S := fun y => (Value.slice B0 m0 d0).ownBlock = some y) g7 (fun g hg => hg)) (fun y hy hy' => by have h1 := l5 y hy; have h2 := hlw y (row_ob HO'.out.b hy'); omega)
            have hoa : OwnAll w7 [cblocks x] [f 23] [F] := OwnAll.cons o5' (OwnAll.nil _) (by simp)
            obtain ⟨F', k1, k2⟩ := hpush w7 v' 1 [f 23] [cblocks x] [F] rfl o7 g7 (fun g hg => (k7 g hg).imp id (fun h => Nat.le_of_lt h)) hoa (fun y hy hy' => by simp at hy; have h1 := l5 y hy; have h2 := hlw y hy'; omega) (fun y hy hy' => by
              simp at hy'
              rcases k7 y hy with h3 | h3
              · have h1 := l5 y hy'; have h2 := hlw y (row_ob HO'.out.b h3.symm); omega
              · have := CS.lt _ o5 y hy'; omega)
            have hfl : (List.take n9 m.bk).flatMap (fun l => [cblocks l]) ++ [cblocks x] = (List.take (n9 + 1) m.bk).flatMap (fun l => [cblocks l]) := by
              rw [List.take_add_one, HX.out]
              simp
            rw [hfl] at k1
            obtain ⟨B', n'', s'', rfl⟩ := row_form k1
            go_wp2_with fail
            refine ⟨_, rfl, ⟨(Chg.of (gbT (gbR _ none) g5) (by simp)).trans (Chg.of g7 fun g hg => hg), F', k1, fun y hy => ?_⟩, ⟨?_, ?_⟩⟩
            · rcases k2 y hy with h3 | h3 | h3
              · exact .inl h3
              · exact .inr (by simp at hs5; omega)
              · exact .inr (l5 y (by simpa using h3))
            · exact Chg.of g7a fun g hg => hg
            · simp [keepsC]
          · (intro f w4 hG hd; (try simp [depsC, dstAt, kAt, bindE, List.filter_cons, bd_data, bd_chain, bd_guard, bd_phase, bd_text, bd_gc] at hd); (first | simp [puts, dsts, Act.put, hd] | simp [puts, dsts, Act.put]); go_wp2_with fail; exact ⟨rfl, rfl⟩)
          · intro f w6 hG hI hd
            obtain ⟨hch, F, o6, l6⟩ := hI
            have o6 : (cblockss (m.bk.take (k + 1))).own w6 F (f 25) := o6
            obtain ⟨B, n', s', e25⟩ := row_form o6
            (try simp [depsC, dstAt, kAt, bindE, List.filter_cons, bd_data, bd_chain, bd_guard, bd_phase, bd_text, bd_gc] at hd)
            have B4 := (HO'.out.blk.grow (gbD (gbR wr none))).chg hch (fun e => HO'.out.n0 (row_ob HO'.out.b e))
            have b0 := B4.cell 0
            have f0 := B4.frozen 0
            simp at b0
            simp [puts, dsts, Act.put, hd, e25]
            go_wp2_with fail
            have hlw := CS.lt _ HO'.out.b
            have hF : ∀ y ∈ F, y ∉ F1 ∧ y ∉ F2 ∧ y ≠ g ∧ H ≤ y := fun y hy => by
              rcases l6 y hy with h3 | h3
              · exact ⟨HO'.out.d01 y h3, HO'.out.d02 y h3, fun e => HO'.out.n0 (e ▸ h3), HO'.out.l0 y h3⟩
              · exact ⟨fun h4 => by have := CS.lt _ HO'.out.s y h4; omega, fun h4 => by have := CS.lt _ HO'.out.p y h4; omega, fun h4 => by have := HO'.out.blk.lt; omega, by have := HO'.out.lg; have := HO'.out.blk.lt; omega⟩
            have hOS : OS H g ⟨m.bk.take (k + 1), m.st, m.pos⟩ (.slice B n' s') (.slice B1 m.st.length d1) (.slice B2 m.pos.length d2) F F1 F2 (w6.setCell ⟨g, 0, none⟩ (.slice B n' s')) :=
              HO'.out.buckets ((Chg.of (gbD (gbR wr none)) (by simp)).trans hch) (by rw [e25] at o6; exact o6) (fun y hy e => HO'.out.d01 y (row_ob HO'.out.b e) hy) (fun y hy e => HO'.out.d02 y (row_ob HO'.out.b e) hy) (fun e => HO'.out.n0 (row_ob HO'.out.b e)) hF
            exact ⟨rfl, .bool false, gbS (gbChg (gbD hg.out) hch (fun i hi => by rw [HH.out]; exact HO'.out.l0 i (row_ob HO'.out.b hi))) (by rw [HH.out]; exact HO'.out.lg) _, _, _, _, _, _, _, hOS⟩
        · intro f w5 hI hd
          obtain ⟨h1, h2⟩ := hI
          have K1 := Lib.hid h1
          have K2' := Lib.hid h2
          clear hd h1 h2
          simp only [puts, dsts, Act.put, List.filterMap_cons, List.filterMap_nil, List.setIfInBounds_toArray, List.set_cons_zero, List.set_cons_succ]
          go_wp2_with fail
          go_roundw
          case rel => exact ⟨k + 1, by omega, by go_num, K2', K1⟩
          case measure => simp [intOf]; omega
      · have hkn : k = n := by omega
        subst hkn
        obtain ⟨V0, V1, V2, F0, F1, F2, hO⟩ := ho.out
        obtain ⟨⟨B0, m0, d0, rfl⟩, ⟨B1, d1, rfl, e1⟩, ⟨B2, d2, rfl, e2⟩⟩ := hO.forms
        have HO' := Lib.hid hO
        have v0 := hO.blk.cell 0
        have v1 := hO.blk.cell 1
        have v2 := hO.blk.cell 2
        have X2 := Lib.hid (K2.out.grow hg.out)
        have b0 := X2.out.cell 0
        have b1 := X2.out.cell 1
        have b2 := X2.out.cell 2
        have f0 := X2.out.frozen 0
        have f1 := X2.out.frozen 1
        have f2 := X2.out.frozen 2
        simp at v0 v1 v2 b0 b1 b2
        clear hO
        go_wp2_with fail
        refine ret_c Try.results77 (by rfl) stOram (cs := #[.slice B0 m0 d0, .slice B1 m.st.length d1, .slice B2 m.pos.length d2]) ?B (by rfl) (by rfl) ?_
        case B => exact fill3 X2.out rfl _ _ _
        have hm : (⟨m.bk.take k, m.st, m.pos⟩ : OM) = m := by rw [List.take_of_length_le (by have := LN.out; omega)]
        have ha := HO'.out.agg
        rw [hm] at ha
        have hz := HH.out
        refine ⟨_, _, rfl, ha.1.chg (chgS3 _ _ _ _ _) (fun y hy e => by have := ha.2 y hy; omega), fun y hy => by have := ha.2 y hy; omega, gbChg (gbT G0.out hg.out) (chgS3 _ _ _ _ _) ?_⟩
        intro i hi
        omega
end Go.Proofs.Ythncoohkdmjcaaa
