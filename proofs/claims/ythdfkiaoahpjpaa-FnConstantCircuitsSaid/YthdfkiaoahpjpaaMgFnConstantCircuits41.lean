/-
  Prune of the program, for a circuit of constants: the walk.
-/
import Derived.Test.YthdfkiaoahpjpaaMgFnConstantCircuits40
namespace Go.Proofs.Ythdfkiaoahpjpaa
open Go.RowKit
set_option linter.unusedVariables false
set_option linter.unusedSimpArgs false
def PruJ (L : List Nat) (os : List Int) (w0 : World) (e : Ending) (w' : World) : Prop :=
  ∃ (V : Value) (M : List Nat) (us : List Int), e = .returned V ∧ aggF w0.heap.size (ccircuit ⟨gt2 M, us⟩) V w' ∧ (∀ b ∈ M, b ≤ 1) ∧ M.length ≤ L.length ∧ us.length = os.length ∧
    (∀ j, j < us.length → ∃ t : Nat, us[j]? = some (t : Int) ∧ ∃ b, M[t]? = some b ∧ L[(os.getD j 0).toNat]? = some b) ∧ w0.grownBy w' none
def NeedS (os : List Int) (nd : List Bool) (n k : Nat) : Prop := nd.length = n ∧ ∀ j, j < k → nd.getD (os.getD j 0).toNat false = true
theorem NeedS.next {os : List Int} {nd : List Bool} {n k a : Nat} (h : NeedS os nd n k) (ha : os.getD k 0 = (a : Int)) (han : a < n) : NeedS os (nd.set a true) n (k + 1) := by
  obtain ⟨h1, h2⟩ := h
  refine ⟨by simp [h1], fun j hj => ?_⟩
  rw [List.getD_eq_getElem?_getD, List.getElem?_set]
  by_cases e : a = (os.getD j 0).toNat
  · rw [if_pos e, if_pos (by rw [h1]; exact han)]
    rfl
  · rw [if_neg e, ← List.getD_eq_getElem?_getD]
    refine h2 j ?_
    rcases Nat.lt_or_ge j k with h3 | h3
    · exact h3
    · obtain rfl : j = k := by omega
      rw [ha] at e
      exact absurd (by simp) e
def KeepS (L : List Nat) (nd : List Bool) (M : List Nat) (ts : List Int) (n k : Nat) : Prop :=
  ts.length = n ∧ M.length ≤ k ∧ (∀ b ∈ M, b ≤ 1) ∧ ∀ j, j < k → nd.getD j false = true → ∃ t : Nat, ts[j]? = some (t : Int) ∧ ∃ b, M[t]? = some b ∧ L[j]? = some b
theorem KeepS.skip {L : List Nat} {nd : List Bool} {M : List Nat} {ts : List Int} {n k : Nat} (h : KeepS L nd M ts n k) (hn : nd.getD k false = false) : KeepS L nd M ts n (k + 1) := by
  obtain ⟨h1, h2, h3, h4⟩ := h
  refine ⟨h1, by omega, h3, fun j hj hd => ?_⟩
  refine h4 j ?_ hd
  rcases Nat.lt_or_ge j k with h5 | h5
  · exact h5
  · obtain rfl : j = k := by omega
    rw [hn] at hd
    cases hd
theorem KeepS.next {L : List Nat} {nd : List Bool} {M : List Nat} {ts : List Int} {n k b : Nat} (h : KeepS L nd M ts n k) (hb : L[k]? = some b) (hb1 : b ≤ 1) (hk : k < n) : KeepS L nd (M ++ [b]) (ts.set k (M.length : Int)) n (k + 1) := by
  obtain ⟨h1, h2, h3, h4⟩ := h
  refine ⟨by simp [h1], by simp; omega, fun x hx => ?_, fun j hj hd => ?_⟩
  · rcases List.mem_append.1 hx with h5 | h5
    · exact h3 x h5
    · simp at h5; omega
  · by_cases e : j = k
    · subst e
      exact ⟨M.length, by rw [List.getElem?_set]; simp [h1, hk], b, by simp, hb⟩
    · obtain ⟨t, q1, b', q2, q3⟩ := h4 j (by omega) hd
      refine ⟨t, by rw [List.getElem?_set, if_neg (by omega)]; exact q1, b', ?_, q3⟩
      rw [List.getElem?_append_left (List.getElem?_eq_some_iff.1 q2).1]
      exact q2
theorem sof_gt (w : World) (lo : Nat) : sofF lo 28 [cgates (gt2 []), CS.pl (.slice none 0 0)] w.heap.size (w.alloc (.cells #[.slice none 0 0, .slice none 0 0] 28)) := by
  have h2 : (cgates (gt2 [])).own (w.alloc (.cells #[.slice none 0 0, .slice none 0 0] 28)) [] (.slice none 0 0) := plst_own (s := 3) (base := 0) (n := 0) (v := .slice none 0 0) (fun _ => rfl) (by omega) c3_one (World.ownsRow_nil _ _ _ _)
  have h3 : OwnAll (w.alloc (.cells #[.slice none 0 0, .slice none 0 0] 28)) [cgates (gt2 []), CS.pl (.slice none 0 0)] [.slice none 0 0, .slice none 0 0] [[], []] := OwnAll.cons h2 (OwnAll.cons ((ownAll_pl [.slice none 0 0] (by simp [Value.oneCell']) _).at_ 0 _ _ _ rfl rfl rfl) (OwnAll.nil _) (by simp)) (by simp)
  exact ⟨_, SOF.made (vs := [.slice none 0 0, .slice none 0 0]) (Blk.new w _ _) ⟨_, _, rfl, h3, rfl⟩ (by simp), by simp⟩
theorem sof_out' {w : World} {lo g : Nat} {x : Value} (B : Blk w g 28 #[x, .slice none 0 0]) (hx : x.oneCell' = true) : sofF lo 28 [CS.pl x, cints []] g w := by
  have h2 : (cints []).own w [] (.slice none 0 0) := cints_own (base := 0) (n := 0) (World.ownsRow_nil _ _ _ _)
  have h3 : OwnAll w [CS.pl x, cints []] [x, .slice none 0 0] [[], []] := OwnAll.cons ((ownAll_pl [x] (by simpa using hx) _).at_ 0 _ _ _ rfl rfl rfl) (OwnAll.cons h2 (OwnAll.nil _) (by simp)) (by simp)
  exact ⟨_, SOF.made (vs := [x, .slice none 0 0]) B ⟨_, _, rfl, h3, rfl⟩ (by simp), by simp⟩
theorem ownF.keepI {lo g n c : Nat} {S : Nat → Prop} {xs : List Int} {w w' : World} (h : ownF lo (cints xs) (.slice (some ⟨g, 0, none⟩) n c) w) (k : Chg S w w') (hS : ¬ S g) : ownF lo (cints xs) (.slice (some ⟨g, 0, none⟩) n c) w' := by
  obtain ⟨F, h1, h2⟩ := h
  obtain ⟨A, c', e, hF, _⟩ := cints_row h1
  exact ⟨F, own_chgK _ h1 k (fun x hx hs => by rw [hF] at hx; simp [Value.ownBlock] at hx; exact hS (by rw [← hx]; exact hs)), h2⟩
def OutU (L : List Nat) (os : List Int) (M : List Nat) (us : List Int) (k : Nat) : Prop := ∀ j, j < k → ∃ t : Nat, us[j]? = some (t : Int) ∧ ∃ b, M[t]? = some b ∧ L[(os.getD j 0).toNat]? = some b
theorem OutU.next {L : List Nat} {os : List Int} {M : List Nat} {us : List Int} {k t b : Nat} (h : OutU L os M us k) (hl : us.length = k) (h1 : M[t]? = some b) (h2 : L[(os.getD k 0).toNat]? = some b) : OutU L os M (us ++ [(t : Int)]) (k + 1) := by
  intro j hj
  by_cases e : j < k
  · obtain ⟨t', q1, q2⟩ := h j e
    exact ⟨t', by rw [List.getElem?_append_left (by omega)]; exact q1, q2⟩
  · obtain rfl : j = k := by omega
    exact ⟨t, by rw [List.getElem?_append_right (by omega)]; simp [hl], b, h1, h2⟩
def OuP (wr : World) (lo g3 j tv : Nat) (os : List Int) (c0 : CS) (AO : Option Addr) (cO : Nat) (F1 : List Nat) (v : Value) (w' : World) : Prop :=
  ∃ (A8 : Option Addr) (c8 : Nat), v = .slice A8 (j + 1) c8 ∧ w'.cell? ⟨g3, 1, none⟩ = some (.slice AO j cO) ∧ w'.frozen? ⟨g3, 1, none⟩ = false ∧ sofF lo 28 [c0, cints (os ++ [(tv : Int)])] g3 (w'.setCell ⟨g3, 1, none⟩ (.slice A8 (j + 1) c8)) ∧ Chg (fun y => y ∈ F1) wr w'
set_option maxHeartbeats 1500000 in
set_option maxRecDepth 100000 in
theorem implPrune_yes (L : List Nat) (os : List Int) (v : Value) (w0 : World) (h : AggR w0 (ccircuit ⟨gt2 L, os⟩) v) (ok : COk ⟨gt2 L, os⟩) (hL1 : ∀ b ∈ L, b ≤ 1) (hou : os.length ≤ 1000) :
    Calls Try.prog 67 #[v] w0 (PruJ L os w0) := by
  have HV := Lib.hid h
  obtain ⟨u0, u1, rfl, h1, h2⟩ := ccircuit_open h
  obtain ⟨A, cA, rfl, hc, hm, hF⟩ := plst_rd (s := 3) (fun _ => rfl) (by omega) h1
  obtain ⟨B, cB, rfl, hcB, hmB, hI⟩ := cints_rd h2
  simp only at hF hI hc hcB hm hmB
  rw [gt2_len] at hF hc
  have hgl := ok.few
  simp only [gt2_len] at hgl
  obtain ⟨n, hn⟩ : ∃ n, L.length = n := ⟨_, rfl⟩
  obtain ⟨q, hq⟩ : ∃ q, os.length = q := ⟨_, rfl⟩
  simp only [gt2_len] at HV ⊢
  rw [hn] at HV hF hc hgl ⊢
  rw [hq] at HV hI hcB hou ⊢
  have HN := Lib.hid hn
  have HQN := Lib.hid hq
  have HF := Lib.hid hF
  have HIO := Lib.hid hI
  have OK := Lib.hid ok
  have HL1 := Lib.hid hL1
  clear h h1 h2 hF hI ok hn hq hm hmB hL1
  obtain ⟨w1, hw1⟩ : ∃ x : World, (w0.alloc (.cells #[.slice A n cA, .slice B q cB] 28)).alloc (.cells #[.slice none 0 0, .slice none 0 0] 28) = x := ⟨_, rfl⟩
  have D1 : Hid (Blk w1 w0.heap.size 28 #[.slice A n cA, .slice B q cB]) := by rw [← hw1]; exact (Blk.new w0 _ _).grow (gbA (gbR _ _) _)
  have E1 : Hid (Blk w1 (w0.heap.size + 1) 28 #[.slice none 0 0, .slice none 0 0]) := by rw [← hw1]; exact Blk.new' _ _ _ _ (by simp)
  have G1 : Hid (w0.grownBy w1 none) := by rw [← hw1]; exact gbA (gbA (gbR _ _) _) _
  have Z1 : Hid (w1.heap.size = w0.heap.size + 2) := by rw [← hw1]; exact Lib.hid (by simp)
  have HW1 := Lib.hid hw1
  clear hw1
  go_enter Try.func67, Try.ntmps67
  go_wp2_with fail
  rw [HW1.out]
  have k0 := D1.out.cell 0
  have k1 := D1.out.cell 1
  simp at k0 k1
  go_wp2_with fail
  clear HW1 k0 k1
  refine (implCircuitOk_c _ _ w1 (HV.out.grow G1.out)).mono ?_
  rintro e w2 ⟨rfl, g2⟩
  rw [circB_yes OK.out]
  have D2 := Lib.hid (D1.out.grow g2)
  have E2 := Lib.hid (E1.out.grow g2)
  have G2 := Lib.hid (gbT G1.out g2)
  have hz2 : w0.heap.size + 2 ≤ w2.heap.size := by have := g2.size; have := Z1.out; omega
  have k0 := D2.out.cell 0
  have k1 := D2.out.cell 1
  simp at k0 k1
  clear g2 D1 E1 G1 Z1
  go_wp2_with (at_make; refine wp_makeN _ el_bool rfl _ _ rfl n rfl rfl (by omega) (by unfold maxLen; omega) ?_; intro w3 o3 g3; rw [show (Value.bool false).cells = #[.bool false] from rfl, made_one] at o3; have O3 := Lib.hid o3; have G3 := Lib.hid g3; have k1 := (D2.out.grow g3).cell 1; simp at k1; clear o3 g3)
  clear k0 k1
  obtain ⟨gn, hgn⟩ : ∃ x, w2.heap.size = x := ⟨_, rfl⟩
  have N3 : Hid (ownF gn (cbools (List.replicate n false)) (.slice (some ⟨gn, 0, none⟩) n n) w3) := by rw [← hgn]; exact Lib.hid (ownF.bools (n := n) (by simpa using O3.out))
  rw [hgn] at hz2 ⊢
  have HGN := Lib.hid hgn
  clear O3 hgn
  go_loopw [26] (fun i wr => ∃ (j : Nat) (nd : List Bool), j ≤ q ∧ i = .int .i64 j ∧ Hid (NeedS os nd n j) ∧ Hid (ownF gn (cbools nd) (.slice (some ⟨gn, 0, none⟩) n n) wr) ∧ Hid (w2.grownBy wr none)) (fun i _ => q - (intOf i).toNat)
  case atStart => exact ⟨0, _, Nat.zero_le _, rfl, ⟨by simp, fun j hj => by omega⟩, N3, G3⟩
  case round =>
    clear N3 G3
    obtain ⟨j, nd, hj, rfl, HNS, HNO, HG⟩ := hrel
    by_cases hlt : j < q
    · have i2 : (j : Int) < (q : Int) := by omega
      obtain ⟨bq, oq, rfl, hbq, hcc⟩ := (HIO.out.grow (gbT G2.out HG.out)).at_ (by omega)
      have cq := hcc j hlt
      have hob := OK.out.outs (os.getD j 0) (by rw [getI _ _ (by rw [HQN.out]; exact hlt)]; exact List.getElem_mem _)
      obtain ⟨on, hon⟩ : ∃ q, os.getD j 0 = q := ⟨_, rfl⟩
      rw [hon] at cq hob
      unfold inB at hob
      simp [gt2_len] at hob
      rw [HN.out] at hob
      obtain ⟨ov, rfl⟩ := Int.eq_ofNat_of_zero_le hob.1
      have hov : ov < n := by omega
      have HON := Lib.hid hon
      have iv : (ov : Int) < (n : Int) := by omega
      obtain ⟨cb, fb, _, _⟩ := HNO.out.valB hov
      have N9 := Lib.hid (HNO.out.putB (i := ov) true)
      have S9 := Lib.hid (HNS.out.next HON.out hov)
      have G9 := Lib.hid (gbC HG.out (chgS wr gn ov (.bool true)) (fun y hy => .inr (by rw [hy, HGN.out]; omega)))
      clear hcc hon hob HNO HNS HG
      go_wp2_with fail
      clear cq cb fb
      go_roundw
      case rel => exact ⟨j + 1, _, by clear i2 iv; omega, by go_num, S9, N9, G9⟩
      case measure => simp [intOf]; omega
    · have hjq : j = q := by omega
      subst hjq
      have i2 : ¬ (j : Int) < (j : Int) := by omega
      have k0 := (D2.out.grow HG.out).cell 0
      simp at k0
      go_wp2_with fail
      clear k0
      obtain ⟨wB, hwB⟩ : ∃ wB : World, wB = wr := ⟨_, rfl⟩
      rw [← hwB] at HNO HG ⊢
      have GB : Hid (w0.grownBy wB none) := Lib.hid (gbT G2.out HG.out)
      have DB := Lib.hid (D2.out.grow HG.out)
      have EB := Lib.hid (E2.out.grow HG.out)
      have RB : Hid (wB.grownBy wB none) := Lib.hid (gbR _ _)
      clear hwB HG D2 E2 G2 HGN hz2
      go_loopw [6] (fun i wr => ∃ z : Int, -1 ≤ z ∧ z < n ∧ i = .int .i64 z ∧ Hid (wB.grownBy wr none)) (fun i _ => (intOf i + 1).toNat)
      case atStart => exact ⟨(n : Int) - 1, by omega, by omega, rfl, RB⟩
      case round =>
        clear RB
        obtain ⟨z, hz1, hz2, rfl, HG⟩ := hrel
        by_cases hz : 0 ≤ z
        · obtain ⟨zn, rfl⟩ := Int.eq_ofNat_of_zero_le hz
          have hzn : zn < n := by omega
          have i3 : (zn : Int) < (n : Int) := by omega
          obtain ⟨b, o, x, y, z9, rfl, hbl, hx, q0, q1, q2⟩ := gates_at (FL.grow HF.out (gbT GB.out HG.out)) hzn
          obtain ⟨bt, hbt⟩ : ∃ bt, L[zn]? = some bt := ⟨L[zn]'(by rw [HN.out]; exact hzn), List.getElem?_eq_getElem _⟩
          have hg9 : (gt2 L)[zn]? = some (2, (bt : Int), 0) := by simp [gt2, hbt]
          rw [hg9] at hx
          injection hx with hx
          injection hx with e1 hx
          injection hx with e2 e3
          subst e1; subst e2
          have E3 := Lib.hid e3
          clear hg9 hbt e3
          obtain ⟨w7, hw7⟩ : ∃ q : World, wr.alloc (.cells #[.int .i64 2, .int .i64 bt, .int .i64 z9] 41) = q := ⟨_, rfl⟩
          have g7 : wr.grownBy w7 none := by rw [← hw7]; exact gbA (gbR _ _) _
          have BG : Hid (Blk w7 wr.heap.size 41 #[.int .i64 2, .int .i64 bt, .int .i64 z9]) := by rw [← hw7]; exact Lib.hid (Blk.new wr _ _)
          have k0 := BG.out.cell 0
          simp at k0
          have d0 := (DB.out.grow HG.out).cell 0
          simp at d0
          have G7 := Lib.hid (gbT HG.out g7)
          obtain ⟨cb, _, _, _⟩ := (HNO.out.grow G7.out).valB hzn
          clear g7 BG HG
          obtain ⟨bb, hbb⟩ : ∃ bb, nd.getD zn false = bb := ⟨_, rfl⟩
          rw [hbb] at cb
          clear hbb
          cases bb
          all_goals
            go_wp2_with fail
            go_roundw
            case rel => exact ⟨(zn : Int) - 1, by omega, by omega, by go_num, G7⟩
            case measure => first | (simp [intOf]; done) | (simp [intOf]; omega)
        · have hz3 : z = -1 := by omega
          subst hz3
          obtain ⟨w8, hw8⟩ : ∃ x : World, wr.alloc (.cells #[.slice none 0 0, .slice none 0 0] 28) = x := ⟨_, rfl⟩
          have g8 : wr.grownBy w8 none := by rw [← hw8]; exact gbA (gbR _ _) _
          have hz8 : w8.heap.size = wr.heap.size + 1 := by rw [← hw8]; simp
          have P8 : Hid (sofF (wr.heap.size + 2) 28 [cgates (gt2 []), CS.pl (.slice none 0 0)] wr.heap.size w8) := by rw [← hw8]; exact Lib.hid (sof_gt wr _)
          have d0 := ((DB.out.grow HG.out).grow g8).cell 0
          simp at d0
          rw [← hw8] at d0
          have HW8 := Lib.hid hw8
          have G8 := Lib.hid (gbT HG.out g8)
          have hzr := HG.out.size
          clear hw8 g8 HG
          go_wp2_with (at_make; rw [HW8.out]; refine wp_makeN _ el_int rfl _ _ rfl n rfl rfl (by omega) (by unfold maxLen; omega) ?_; intro w9 o9 g9; rw [show (Value.int .i64 0).cells = #[.int .i64 0] from rfl, made_one] at o9; have O9 := Lib.hid o9; have G9 := Lib.hid g9; rw [HW8.out] at d0; have d9 := g9.cell d0 (by simp); clear o9 g9)
          obtain ⟨g8, hg8⟩ : ∃ x, wr.heap.size = x := ⟨_, rfl⟩
          have O9' : Hid (ownF (g8 + 1) (cints (List.replicate n 0)) (.slice (some ⟨g8 + 1, 0, none⟩) n n) w9) := by
            have := O9.out
            rw [hz8, hg8] at this
            exact Lib.hid (ownF.ints (n := n) (by simpa using this))
          have hz9 := G9.out.size
          have P9 := Lib.hid (P8.out.grow G9.out)
          have G9' : Hid (wB.grownBy w9 none) := Lib.hid (gbT G8.out G9.out)
          have hlt9 : g8 + 1 < w9.heap.size := by
            obtain ⟨F, h1, h2⟩ := O9'.out
            obtain ⟨A', c', e, hF', hr⟩ := cints_row h1
            injection e with e1 e2 e3
            have := CS.lt _ h1 (g8 + 1) (by rw [hF']; simp [Value.ownBlock])
            exact this
          have hwg : wB.heap.size ≤ g8 := by omega
          rw [hg8] at P9 ⊢
          clear O9 P8 G8 G9 d0 d9 HW8 hg8 hz8 hz9 k1 hzr
          go_loopw [81] (fun i wr => ∃ (k : Nat) (M : List Nat) (ts : List Int), k ≤ n ∧ i = .int .i64 k ∧ Hid (KeepS L nd M ts n k) ∧ Hid (ownF (g8 + 1) (cints ts) (.slice (some ⟨g8 + 1, 0, none⟩) n n) wr) ∧ Hid (sofF (g8 + 2) 28 [cgates (gt2 M), CS.pl (.slice none 0 0)] g8 wr) ∧ Hid (wB.grownBy wr none) ∧ g8 + 2 ≤ wr.heap.size) (fun i _ => n - (intOf i).toNat)
          case atStart => exact ⟨0, [], _, Nat.zero_le _, rfl, ⟨by simp, by simp, by simp, fun j hj => by omega⟩, O9', P9, G9', by omega⟩
          case round =>
            clear O9' P9 G9'
            obtain ⟨k, M, ts, hk, rfl, HKS, HTO, HP, HG, hz2'⟩ := hrel
            by_cases hkn : k < n
            · have i4 : (k : Int) < (n : Int) := by omega
              obtain ⟨b, o, x, y, z9, rfl, hbl, hx, q0, q1, q2⟩ := gates_at (FL.grow HF.out (gbT GB.out HG.out)) hkn
              obtain ⟨bt, hbt⟩ : ∃ bt, L[k]? = some bt := ⟨L[k]'(by rw [HN.out]; exact hkn), List.getElem?_eq_getElem _⟩
              have hg9 : (gt2 L)[k]? = some (2, (bt : Int), 0) := by simp [gt2, hbt]
              rw [hg9] at hx
              injection hx with hx
              injection hx with e1 hx
              injection hx with e2 e3
              subst e1; subst e2
              have E3 := Lib.hid e3
              have HBT := Lib.hid hbt
              have hb1 := HL1.out bt (List.getElem?_eq_some_iff.1 hbt |>.2 ▸ List.getElem_mem _)
              clear hg9 hbt e3
              obtain ⟨w7, hw7⟩ : ∃ q : World, wr.alloc (.cells #[.int .i64 2, .int .i64 bt, .int .i64 z9] 41) = q := ⟨_, rfl⟩
              have g7 : wr.grownBy w7 none := by rw [← hw7]; exact gbA (gbR _ _) _
              have hz7 : w7.heap.size = wr.heap.size + 1 := by rw [← hw7]; simp
              have BG : Hid (Blk w7 wr.heap.size 41 #[.int .i64 2, .int .i64 bt, .int .i64 z9]) := by rw [← hw7]; exact Lib.hid (Blk.new wr _ _)
              have k0 := BG.out.cell 0
              simp at k0
              have G7 := Lib.hid (gbT HG.out g7)
              obtain ⟨cb, _, _, _⟩ := (HNO.out.grow G7.out).valB hkn
              have T7 := Lib.hid (HTO.out.grow g7)
              have P7 := Lib.hid (HP.out.grow g7)
              clear g7 HTO HP HG
              obtain ⟨bb, hbb⟩ : ∃ bb, nd.getD k false = bb := ⟨_, rfl⟩
              rw [hbb] at cb
              have HBB := Lib.hid hbb
              clear hbb
              cases bb
              · have K9 := Lib.hid (HKS.out.skip HBB.out)
                go_wp2_with fail
                go_roundw
                case rel => exact ⟨k + 1, M, ts, by omega, by go_num, K9, T7, P7, G7, by omega⟩
                case measure => first | (simp [intOf]; done) | (simp [intOf]; omega)
              · obtain ⟨AM, cM, F1, m0, m0f, _, _, _⟩ := sof_plst0 (i := 0) (s := 3) (fun _ => rfl) (by omega) P7.out (by omega) rfl (gt2_len M)
                obtain ⟨ct, cf, _, _⟩ := T7.out.valI hkn
                obtain ⟨wS, hwS⟩ : ∃ x : World, w7.setCell ⟨g8 + 1, k, none⟩ (.int .i64 (M.length : Nat)) = x := ⟨_, rfl⟩
                have cS : Chg (fun y => y = g8 + 1) w7 wS := by rw [← hwS]; exact chgS w7 (g8 + 1) k _
                have TS9 : Hid (ownF (g8 + 1) (cints (ts.set k (M.length : Int))) (.slice (some ⟨g8 + 1, 0, none⟩) n n) wS) := by rw [← hwS]; exact Lib.hid (T7.out.put (i := k) (M.length : Int))
                have PS := Lib.hid (P7.out.chgS cS (fun y hy => by omega))
                have BS9 := Lib.hid (BG.out.chg cS (by omega))
                have GS := Lib.hid (gbC G7.out cS (fun y hy => .inr (by omega)))
                have hzS := cS.size
                have K9 := Lib.hid (HKS.out.next HBT.out hb1 hkn)
                have hML := HKS.out.2.1
                clear cS T7 P7 BG G7 HKS
                obtain ⟨AN, cN, F2, n0, n0f, on, ⟨hf1, hf2, hf3⟩, hpu⟩ := sof_plst0 (i := 0) (s := 3) (fun _ => rfl) (by omega) PS.out (by omega) rfl (gt2_len M)
                have s0 := BS9.out.cell 0
                have s1 := BS9.out.cell 1
                have s2 := BS9.out.cell 2
                simp at s0 s1 s2
                have ON := Lib.hid on
                have HPU := Lib.hid hpu
                have HF1 := Lib.hid hf1
                have HML := Lib.hid (gt2_len M)
                clear on hpu hf1 hf2 hf3 PS BS9
                go_wp2_with (at_builtin; refine wp_pushGt wS wS.heap.size rfl rfl (.tmp 126) (.tmp 128) rfl 2 bt z9 AN M.length cN (gt2 M) F2 ON.out HML.out rfl rfl (by omega) ?_; intro A8 c8 w10 F8 O8 C8 S8; have C9 := (Chg.of (S := fun y => y ∈ F2) (gbA (gbR wS none) (.cells #[.int .i64 2, .int .i64 bt, .int .i64 z9] 41)) (by simp)).trans C8.out; obtain ⟨r1, r2, r3⟩ := HPU.out w10 A8 (M.length + 1) c8 F8 _ O8.out C9 S8.out; have R3 := Lib.hid r3; have HC9 := Lib.hid C9; clear r3 C9 O8 C8 S8)
                have TD := Lib.hid ((TS9.out.keepI HC9.out (fun e => by have := (HF1.out _ e).1; omega)).keepI (chgS w10 g8 0 (.slice A8 (M.length + 1) c8)) (by omega))
                have PD : Hid (sofF (g8 + 2) 28 [cgates (gt2 (M ++ [bt])), CS.pl (.slice none 0 0)] g8 (w10.setCell ⟨g8, 0, none⟩ (.slice A8 (M.length + 1) c8))) := by
                  rw [show gt2 (M ++ [bt]) = gt2 M ++ [(2, (bt : Int), z9)] by rw [gt2_app, ← E3.out]; rfl]
                  exact R3
                have GD := Lib.hid (gbC (gbC GS.out HC9.out (fun y hy => .inr (by have := (HF1.out y hy).1; omega))) (chgS w10 g8 0 (.slice A8 (M.length + 1) c8)) (fun y hy => .inr (by omega)))
                have hzD : g8 + 2 ≤ (w10.setCell ⟨g8, 0, none⟩ (.slice A8 (M.length + 1) c8)).heap.size := by
                  have h1 := HC9.out.size
                  have h2 := (chgS w10 g8 0 (.slice A8 (M.length + 1) c8)).size
                  omega
                clear R3 HC9 TS9 GS
                go_roundw
                case rel => exact ⟨k + 1, M ++ [bt], _, by omega, by go_num, K9, TD, PD, GD, hzD⟩
                case measure => first | (simp [intOf]; done) | (simp [intOf]; omega)
            · have hkn' : k = n := by omega
              subst hkn'
              have i4 : ¬ (k : Int) < (k : Int) := by omega
              have d1 := (DB.out.grow HG.out).cell 1
              simp at d1
              have KS := Lib.hid HKS.out
              obtain ⟨F, hSF, hF⟩ := HP.out
              obtain ⟨vs, B9, ag⟩ := hSF.agg
              obtain ⟨vs2, Fs2, e, hAll, eF⟩ := ag
              obtain ⟨v0, vs0, X0, Y0, e1, eFs, ho0, hAll, _⟩ := OwnAll.head hAll
              have LG : Hid (∀ x ∈ X0, w0.heap.size ≤ x) := Lib.hid (fun x hx => by have h1 := hF x (by rw [eF, eFs]; simp [hx]); have h2 := GB.out.size; omega)
              clear eF eFs
              obtain ⟨v1, vs1, X1, Y1, e2, _, ⟨_, hv1, _⟩, hAll, _⟩ := OwnAll.head hAll
              obtain ⟨e3, _⟩ := OwnAll.none hAll
              obtain ⟨AM, cM, hv0, _, _⟩ := plst_row (s := 3) (fun _ => rfl) (by omega) ho0
              rw [gt2_len] at hv0
              rw [e2, e3, hv1, hv0] at e1
              rw [e1] at e
              injection e with e
              rw [e] at B9
              rw [hv0] at ho0
              obtain ⟨wD, hwD⟩ : ∃ wD : World, wD = wr := ⟨_, rfl⟩
              rw [← hwD] at B9 ho0 HTO HG d1 hz2' ⊢
              have OG := Lib.hid ho0
              have PO : Hid (sofF wD.heap.size 28 [CS.pl (.slice AM M.length cM), cints []] g8 wD) := Lib.hid (sof_out' B9 (by simp [Value.oneCell']))
              have BD := Lib.hid B9
              have CD : Hid (Chg (fun y => y = g8 ∨ wD.heap.size ≤ y) wD wD) := Lib.hid (Chg.refl _ _)
              have TD := Lib.hid HTO.out
              have GD := Lib.hid HG.out
              clear e1 e2 e3 e hv0 hv1 hAll B9 hSF hF ho0 HP HTO HG HKS hwD
              go_wp2_with fail
              clear d1
              go_loopw [135] (fun i wr => ∃ (p : Nat) (us : List Int), p ≤ j ∧ i = .int .i64 p ∧ Hid (us.length = p) ∧ Hid (OutU L os M us p) ∧ Hid (sofF wD.heap.size 28 [CS.pl (.slice AM M.length cM), cints us] g8 wr) ∧ Hid (Chg (fun y => y = g8 ∨ wD.heap.size ≤ y) wD wr)) (fun i _ => j - (intOf i).toNat)
              case atStart => exact ⟨0, [], Nat.zero_le _, rfl, rfl, fun i hi => by omega, PO, CD⟩
              case round =>
                clear PO CD
                obtain ⟨p, us, hp, rfl, HUL, HOU, HP, HC⟩ := hrel
                by_cases hpj : p < j
                · have i5 : (p : Int) < (j : Int) := by omega
                  have GW : Hid (w0.grownBy wr none) := Lib.hid (gbC (gbT GB.out GD.out) HC.out (fun y hy => by have h1 := GB.out.size; have h2 := GD.out.size; exact .inr (by rcases hy with hy | hy <;> omega)))
                  obtain ⟨bq, oq, rfl, hbq, hcc⟩ := (HIO.out.grow GW.out).at_ (by omega)
                  have cq := hcc p hpj
                  have hob := OK.out.outs (os.getD p 0) (by rw [getI _ _ (by rw [HQN.out]; exact hpj)]; exact List.getElem_mem _)
                  obtain ⟨on, hon⟩ : ∃ q, os.getD p 0 = q := ⟨_, rfl⟩
                  rw [hon] at cq hob
                  unfold inB at hob
                  simp [gt2_len] at hob
                  rw [HN.out] at hob
                  obtain ⟨ov, rfl⟩ := Int.eq_ofNat_of_zero_le hob.1
                  have hov : ov < k := by omega
                  have HON := Lib.hid hon
                  have iv : (ov : Int) < (k : Int) := by omega
                  have hnd := HNS.out.2 p hpj
                  rw [hon, Int.toNat_natCast] at hnd
                  obtain ⟨tv, htv, bv, hMb, hLb⟩ := KS.out.2.2.2 ov hov hnd
                  obtain ⟨ct, _, _, _⟩ := (TD.out.keepI HC.out (by omega)).valI hov
                  rw [List.getD_eq_getElem?_getD, htv, Option.getD_some] at ct
                  have CT := Lib.hid ct
                  have hwDr := HC.out.size
                  obtain ⟨AO, cO, F1, pc, _, ho1, ⟨hf1, hf2, hf3⟩, hpu⟩ := sof_plst0 (i := 1) (s := 1) (e := 3) (f := fiC) (xs := us) (fun _ => rfl) (by omega) HP.out (by omega) rfl HUL.out
                  have PC := Lib.hid pc
                  have HO1 := Lib.hid ho1
                  have HPU := Lib.hid hpu
                  have HF1 := Lib.hid hf1
                  have HF2 := Lib.hid hf2
                  have OU9 : Hid (OutU L os M (us ++ [(tv : Int)]) (p + 1)) := Lib.hid (HOU.out.next HUL.out hMb (by rw [hon, Int.toNat_natCast]; exact hLb))
                  have UL9 : Hid ((us ++ [(tv : Int)]).length = p + 1) := Lib.hid (by simp [HUL.out])
                  clear pc ho1 hpu hf1 hf2 HP hcc hon htv hMb hLb hob ct hnd
                  go_wp2_with fail
                  clear cq
                  refine region_chain [.rd (.pointer (some ⟨g8, 1, none⟩)), .rd (.slice AO p cO), .rd (.slice (some ⟨g8 + 1, 0, none⟩) k k), .rd (.int .i64 ov), .rd (.pointer (some ⟨g8 + 1, ov, none⟩)), .rd (.int .i64 tv), .ch, .ch, .rd (.pointer (some ⟨g8, 1, none⟩)), .ch] (fun y => y ∈ F1)
                    [⟨[], fun _ w' => w' = wr.drew⟩,
                     ⟨[145], fun l w' => w' = wr.drew.alloc (.cells #[.int .i64 tv] 3) ∧ l.getD 0 undef = .slice (some ⟨wr.heap.size, 0, none⟩) 1 1⟩,
                     ⟨[146], fun l w' => OuP wr wD.heap.size g8 p tv us (CS.pl (.slice AM M.length cM)) AO cO F1 (l.getD 0 undef) w'⟩,
                     ⟨[], fun _ w' => sofF wD.heap.size 28 [CS.pl (.slice AM M.length cM), cints (us ++ [(tv : Int)])] g8 w' ∧ Chg (fun y => y = g8 ∨ wD.heap.size ≤ y) wr w'⟩]
                    (by kernel_rfl) (by kernel_rfl) (by kernel_rfl) 3 (by kernel_rfl) (by simp only [flOk, and_true]) rfl rfl ?_ ?_
                  · simp only [hopsK, hopK, Kd.next, and_true]
                    refine ⟨?_, ?_, ?_, ?_, ?_, ?_, ?_, ?_, ?_, ?_⟩
                    · intro f w4 hG hd
                      (try simp [depsC, dstAt, kAt, bindE, List.filter_cons, bd_data, bd_chain, bd_guard, bd_phase, bd_text, bd_gc] at hd)
                      (first | simp [puts, dsts, Act.put, hd] | simp [puts, dsts, Act.put])
                      clear hd
                      go_wp2_with fail
                      exact ⟨rfl, rfl⟩
                    · intro f w4 hG hd
                      have b5 := hG.cell (gbk (gbD (gbR wr none)) PC.out) (by simp; omega) HF2.out
                      (try simp [depsC, dstAt, kAt, bindE, List.filter_cons, bd_data, bd_chain, bd_guard, bd_phase, bd_text, bd_gc] at hd)
                      (first | simp [puts, dsts, Act.put, hd] | simp [puts, dsts, Act.put])
                      clear hd
                      go_wp2_with fail
                      exact ⟨rfl, rfl⟩
                    · intro f w4 hG hd
                      (try simp [depsC, dstAt, kAt, bindE, List.filter_cons, bd_data, bd_chain, bd_guard, bd_phase, bd_text, bd_gc] at hd)
                      (first | simp [puts, dsts, Act.put, hd] | simp [puts, dsts, Act.put])
                      clear hd
                      go_wp2_with fail
                      exact ⟨rfl, rfl⟩
                    · intro f w4 hG hd
                      (try simp [depsC, dstAt, kAt, bindE, List.filter_cons, bd_data, bd_chain, bd_guard, bd_phase, bd_text, bd_gc] at hd)
                      (first | simp [puts, dsts, Act.put, hd] | simp [puts, dsts, Act.put])
                      clear hd
                      go_wp2_with fail
                      exact ⟨rfl, rfl⟩
                    · intro f w4 hG hd
                      (try simp [depsC, dstAt, kAt, bindE, List.filter_cons, bd_data, bd_chain, bd_guard, bd_phase, bd_text, bd_gc] at hd)
                      (first | simp [puts, dsts, Act.put, hd] | simp [puts, dsts, Act.put])
                      clear hd
                      go_wp2_with fail
                      exact ⟨rfl, rfl⟩
                    · intro f w4 hG hd
                      have b5 := hG.cell (gbk (gbD (gbR wr none)) CT.out) (by simp; omega) (fun e => by have := (HF1.out _ e).1; omega)
                      (try simp [depsC, dstAt, kAt, bindE, List.filter_cons, bd_data, bd_chain, bd_guard, bd_phase, bd_text, bd_gc] at hd)
                      (first | simp [puts, dsts, Act.put, hd] | simp [puts, dsts, Act.put])
                      clear hd
                      go_wp2_with fail
                      exact ⟨rfl, rfl⟩
                    · intro f w4 hG hI hd
                      have hI : w4 = wr.drew := hI
                      subst hI
                      (try simp [depsC, dstAt, kAt, bindE, List.filter_cons, bd_data, bd_chain, bd_guard, bd_phase, bd_text, bd_gc] at hd)
                      (first | simp [puts, dsts, Act.put, hd] | simp [puts, dsts, Act.put])
                      clear hd
                      go_wp2_with fail
                      exact ⟨_, rfl, ⟨rfl, rfl⟩, ⟨Chg.of (gbA (gbR _ none) _) (by simp), by simp [keepsC, dstAt]⟩⟩
                    · intro f w4 hG hI hd
                      obtain ⟨rfl, e84⟩ := hI
                      have e84 : f 145 = .slice (some ⟨wr.heap.size, 0, none⟩) 1 1 := e84
                      (try simp [depsC, dstAt, kAt, bindE, List.filter_cons, bd_data, bd_chain, bd_guard, bd_phase, bd_text, bd_gc] at hd)
                      simp [puts, dsts, Act.put, hd, e84]
                      clear hd e84
                      refine wp_pushG wr.drew wr.heap.size rfl rfl (.tmp 140) (.tmp 145) rfl (tv : Int) AO p cO us F1 (own_growK _ HO1.out (gbD (gbR wr none))) HUL.out rfl rfl (by omega) ?_
                      intro A8 c8 w9 F8 O8 C8 S8
                      go_wp2_with fail
                      have C9 := (Chg.of (S := fun y => y ∈ F1) (gbA (gbD (gbR wr none)) (.cells #[.int .i64 tv] 3)) (by simp)).trans C8.out
                      obtain ⟨r1, r2, r3⟩ := HPU.out w9 A8 (p + 1) c8 F8 _ O8.out C9 S8.out
                      exact ⟨_, rfl, ⟨A8, c8, rfl, r1, r2, r3, C9⟩, ⟨C8.out, by simp [keepsC, dstAt]⟩⟩
                    · intro f w4 hG hd
                      (try simp [depsC, dstAt, kAt, bindE, List.filter_cons, bd_data, bd_chain, bd_guard, bd_phase, bd_text, bd_gc] at hd)
                      (first | simp [puts, dsts, Act.put, hd] | simp [puts, dsts, Act.put])
                      clear hd
                      go_wp2_with fail
                      exact ⟨rfl, rfl⟩
                    · intro f w4 hG hI hd
                      obtain ⟨A8, c8, e85, r1, r2, r3, r4⟩ := hI
                      have e85 : f 146 = .slice A8 (p + 1) c8 := e85
                      have CS9 := chgS w4 g8 1 (.slice A8 (p + 1) c8)
                      have H9 : Chg (fun y => y = g8 ∨ wD.heap.size ≤ y) wr (w4.setCell ⟨g8, 1, none⟩ (.slice A8 (p + 1) c8)) := (r4.mono fun y hy => .inr (HF1.out y hy).1).trans (CS9.mono fun y hy => .inl hy)
                      have HR3 := Lib.hid r3
                      have HH9 := Lib.hid H9
                      clear r3 r4 CS9 H9
                      (try simp [depsC, dstAt, kAt, bindE, List.filter_cons, bd_data, bd_chain, bd_guard, bd_phase, bd_text, bd_gc] at hd)
                      simp [puts, dsts, Act.put, hd, e85]
                      clear hd
                      go_wp2_with fail
                      exact ⟨rfl, .bool false, HR3.out, HH9.out⟩
                  intro f w8 hI hd
                  simp only [puts, dsts, Act.put, List.filterMap_cons, List.filterMap_nil, List.setIfInBounds_toArray, List.set_cons_zero, List.set_cons_succ]
                  obtain ⟨hP8, hch⟩ := hI
                  have P8 := Lib.hid hP8
                  have C8 := Lib.hid (HC.out.trans hch)
                  clear hP8 hch hd
                  go_wp2_with fail
                  go_roundw
                  case rel => exact ⟨p + 1, us ++ [(tv : Int)], by clear i5 iv; omega, by go_num, UL9, OU9, P8, C8⟩
                  case measure => first | (simp [intOf]; done) | (simp [intOf]; omega)
                · have hpj' : p = j := by omega
                  subst hpj'
                  have i5 : ¬ (p : Int) < (p : Int) := by omega
                  obtain ⟨F, hSF, hF⟩ := HP.out
                  obtain ⟨vs, B9, ag⟩ := hSF.agg
                  obtain ⟨vs2, Fs2, e, hAll, eF⟩ := ag
                  obtain ⟨v0, vs0, X2, Y0, e1, eFs, ⟨_, hv0, _⟩, hAll, _⟩ := OwnAll.head hAll
                  obtain ⟨v1, vs1, X1, Y1, e2, eFt, ho1, hAll, _⟩ := OwnAll.head hAll
                  have LU : Hid (∀ x ∈ X1, w0.heap.size ≤ x) := Lib.hid (fun x hx => by have h1 := hF x (by rw [eF, eFs, eFt]; simp [hx]); have h2 := GB.out.size; have h3 := GD.out.size; omega)
                  clear eF eFs eFt
                  obtain ⟨e3, _⟩ := OwnAll.none hAll
                  rw [e2, e3, hv0] at e1
                  rw [e1] at e
                  injection e with e
                  rw [e] at B9
                  obtain ⟨AO, nO, cO, hv1⟩ := row_form ho1
                  rw [hv1] at B9 ho1
                  have hgb := GB.out.size
                  have hgd := GD.out.size
                  have hlE := EB.out.lt
                  have ED := EB.out.grow GD.out
                  have EW := Lib.hid (ED.chg HC.out (fun e => by rcases e with e | e <;> omega))
                  have RS := Lib.hid (blk_setCells EW.out [.slice AM M.length cM, .slice AO nO cO] rfl)
                  have CH := Lib.hid (chg_setCells (w0.heap.size + 1) [.slice AM M.length cM, .slice AO nO cO] 0 wr)
                  have HO1 := Lib.hid ho1
                  have nG : g8 ∉ _ := own_ty (Ts := [41]) (tyd_plst (by simp)) OG.out BD.out (by decide)
                  have OGW := Lib.hid (own_chgK _ OG.out HC.out (fun x hx e => by
                    rcases e with e | e
                    · exact nG (by rw [← e]; exact hx)
                    · have := CS.lt _ OG.out x hx; omega))
                  have GW : Hid (w0.grownBy wr none) := Lib.hid (gbC (gbT GB.out GD.out) HC.out (fun y hy => .inr (by rcases hy with hy | hy <;> omega)))
                  have v0 := B9.cell 0
                  have v1 := B9.cell 1
                  have b0 := EW.out.cell 0
                  have b1 := EW.out.cell 1
                  have f0 := EW.out.frozen 0
                  have f1 := EW.out.frozen 1
                  simp at v0 v1 b0 b1
                  clear e1 e2 e3 e hv0 hv1 hAll B9 hSF hF ho1 HP ED OG HC nG GB GD DB EB hgb hgd
                  go_wp2_with fail
                  refine ret_c Try.results67 (by rfl) stCircuit (cs := #[.slice AM M.length cM, .slice AO nO cO]) RS.out (by rfl) (by rfl) ?_
                  have n0 : w0.heap.size + 1 ∉ _ := own_ty (Ts := [41]) (tyd_plst (by simp)) OGW.out EW.out (by decide)
                  have n1 : w0.heap.size + 1 ∉ X1 := own_ty (Ts := [3]) (tyd_plst (by simp)) HO1.out EW.out (by decide)
                  have q0 := own_chgK _ OGW.out CH.out (fun x hx e => n0 (by rw [← e]; exact hx))
                  have q1 := own_chgK _ HO1.out CH.out (fun x hx e => n1 (by rw [← e]; exact hx))
                  exact ⟨_, M, us, rfl, ⟨_, ccircuit_omk q0 q1 (gi_disj q0 q1), fun x hx => by
                    simp only [List.flatten_cons, List.flatten_nil, List.append_nil, List.mem_append] at hx
                    rcases hx with hx | hx
                    · exact LG.out x hx
                    · exact LU.out x hx⟩, KS.out.2.2.1, by have := KS.out.2.1; have := HN.out; omega, by rw [HUL.out, HQN.out], fun i hi => HOU.out i (by rw [← HUL.out]; exact hi), gbC GW.out CH.out (fun y hy => .inr (by rw [hy]; omega))⟩
end Go.Proofs.Ythdfkiaoahpjpaa
