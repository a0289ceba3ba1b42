/-
  The laws' marks on slices of Auths.
-/
import Derived.Test.YthaadgdeadbhkaaMgFnExactEngineNew30
namespace Go.Proofs.Ythaadgdeadbhkaa
open Go.RowKit
set_option linter.unusedVariables false
set_option linter.unusedSimpArgs false
def mkAS (k : Int) : List AuM → List AuM
  | [] => []
  | x :: xs => x.mkd k :: mkAS (k + (x.sz : Nat)) xs
theorem mkAS_len (xss : List AuM) : ∀ k, (mkAS k xss).length = xss.length := by
  induction xss with
  | nil => intro k; rfl
  | cons x xs ih => intro k; rw [mkAS, List.length_cons, ih, List.length_cons]
theorem mkAS_get (xss : List AuM) : ∀ (k : Int) (j : Nat), (mkAS k xss)[j]? = xss[j]?.map fun x => x.mkd (k + (auS xss j : Nat)) := by
  induction xss with
  | nil => intro k j; simp [mkAS]
  | cons x xs ih =>
    intro k j
    cases j with
    | zero => simp [mkAS, auS]
    | succ j =>
      rw [mkAS, List.getElem?_cons_succ, ih, List.getElem?_cons_succ]
      have : auS (x :: xs) (j + 1) = x.sz + auS xs j := by simp [auS]
      rw [this]
      cases xs[j]? with
      | none => rfl
      | some y => simp only [Option.map_some]; congr 2; omega
theorem mkAS_step (xss : List AuM) (k : Int) (j : Nat) (x : AuM) (h : xss[j]? = some x) : ((mkAS k xss).take j ++ xss.drop j).set j (x.mkd (k + (auS xss j : Nat))) = (mkAS k xss).take (j + 1) ++ xss.drop (j + 1) := by
  obtain ⟨hj, rfl⟩ := List.getElem?_eq_some_iff.1 h
  have hl := mkAS_len xss k
  have hg := mkAS_get xss k j
  rw [h] at hg
  rw [List.set_append_right _ _ (by simp; omega), List.length_take, Nat.min_eq_left (by omega), Nat.sub_self, List.drop_eq_getElem_cons hj, List.set_cons_zero]
  have hj' : j < (mkAS k xss).length := by omega
  rw [List.take_succ_eq_append_getElem hj', List.append_assoc]
  have : (mkAS k xss)[j] = (xss[j]).mkd (k + (auS xss j : Nat)) := by
    rw [List.getElem?_eq_getElem hj'] at hg; simpa using hg
  rw [this]
  rfl
set_option maxHeartbeats 1600000 in
theorem markAuthS_z (xss : List AuM) (v : Value) (F : List Nat) (k0 : Int) (w : World) (h : (cauths xss).own w F v) (hn : szA xss ≤ 1048576) (h0 : 0 ≤ k0) (h1 : k0 ≤ 274877906944) :
    Calls Try.prog 99 #[v, .int .i64 k0] w fun e w' => e = .returned (.int .i64 (k0 + (auS xss xss.length : Nat))) ∧ (cauths (mkAS k0 xss)).own w' F v ∧ Chg (fun g => g ∈ F) w w' := by
  obtain ⟨A, c, rfl, hc, hm⟩ := cas_rd (CS.toRd _ h)
  have HX := Lib.hid h
  unfold szA at hn
  obtain ⟨n, hnn⟩ : ∃ n, xss.length = n := ⟨_, rfl⟩
  rw [hnn] at hc hn HX ⊢
  have LX := Lib.hid hnn
  unfold maxLen at hm
  clear h hnn
  go_enter Try.func99, Try.ntmps99
  go_wp2_with fail
  go_loopw [1, 5] (fun s i wr => ∃ j : Nat, j ≤ n ∧ i = .int .i64 j ∧ s = .int .i64 (k0 + (auS xss j : Nat)) ∧ Hid ((cauths ((mkAS k0 xss).take j ++ xss.drop j)).own wr F (.slice A n c)) ∧ Hid (Chg (fun g => g ∈ F) w wr)) (fun _ i _ => n - (intOf i).toNat)
  case atStart => exact ⟨0, Nat.zero_le _, rfl, by rw [auS_zero]; go_num, by simpa [Hid] using HX.out, Chg.refl _ _⟩
  case round =>
    obtain ⟨j, hj, rfl, rfl, hown, hch⟩ := hrel
    by_cases hlt : j < n
    · have hF := hown.out
      have hjx : j < xss.length := by have := LX.out; omega
      have hx : xss[j]? = some xss[j] := List.getElem?_eq_getElem hjx
      have HS := Lib.hid (auS_succ xss j _ hx)
      have HM := Lib.hid (auS_mono xss (show j + 1 ≤ n by omega))
      have hst := mkAS_step xss k0 j _ hx
      generalize xss[j] = x at *
      have hll : ((mkAS k0 xss).take j ++ xss.drop j).length = n := by rw [List.length_append, List.length_take, mkAS_len, List.length_drop]; have := LX.out; omega
      have hlist : ((mkAS k0 xss).take j ++ xss.drop j)[j]? = some x := by
        rw [List.getElem?_append_right (by simp; omega), List.length_take, mkAS_len, Nat.min_eq_left (by omega), Nat.sub_self, List.getElem?_drop]
        simpa using hx
      obtain ⟨g, rfl, hgF⟩ := cauths_ptr hF (by rw [hll]; omega)
      have hd0 : (((mkAS k0 xss).take j ++ xss.drop j).flatMap cauth)[j * 2]? = some (cints x.sh) := by
        have := flat_get (sz := 2) (F := cauth) (fun _ => rfl) ((mkAS k0 xss).take j ++ xss.drop j) j 0 (by omega)
        rw [hlist] at this
        exact this
      have hd1 : (((mkAS k0 xss).take j ++ xss.drop j).flatMap cauth)[j * 2 + 1]? = some (cints x.mc) := by
        have := flat_get (sz := 2) (F := cauth) (fun _ => rfl) ((mkAS k0 xss).take j ++ xss.drop j) j 1 (by omega)
        rw [hlist] at this
        exact this
      obtain ⟨u0, F0, q0, ho0, hsub0, hnext0⟩ := row_inner2 hF hd0
      obtain ⟨u1, F1, q1, _, _, _⟩ := row_inner2 hF hd1
      have i1 : (j : Int) < (n : Int) := by omega
      have hsz : x.sz = x.sh.length + x.mc.length := rfl
      have hb1 : auS xss j + x.sz ≤ 1048576 := by
        have h1 := HS.out; have h2 := HM.out; omega
      have HO := Lib.hid ho0
      have HNX := Lib.hid hnext0
      have HSUB := Lib.hid hsub0
      have HST := Lib.hid hst
      have HD1 := Lib.hid hd1
      have HLL := Lib.hid hll
      clear hx hst hlist hd0 hd1 ho0 hnext0 hsub0 hown hF hll q1
      go_wp2_with fail
      refine (markIntS_k x.sh u0 F0 (k0 + (auS xss j : Nat)) _ HO.out (by omega) (by omega) (by omega)).mono ?_
      rintro e w2 ⟨rfl, o2, c2⟩
      have k1 := HNX.out w2 _ c2 o2
      have hd1' : ((((mkAS k0 xss).take j ++ xss.drop j).flatMap cauth).set (j * 2) (cints (marks (k0 + (auS xss j : Nat)) x.sh.length)))[j * 2 + 1]? = some (cints x.mc) := by
        rw [List.getElem?_set_ne (by omega)]; exact HD1.out
      obtain ⟨u1', F1', q1, ho1, hsub1, hnext1⟩ := row_inner2 k1 hd1'
      have C2 := Lib.hid (hch.out.trans (c2.mono fun y hy => HSUB.out y hy))
      have HO1 := Lib.hid ho1
      have HNX1 := Lib.hid hnext1
      have HSUB1 := Lib.hid hsub1
      clear o2 c2 k1 hch ho1 hnext1 hsub1 hd1'
      go_wp2_with fail
      refine (markIntS_k x.mc u1' F1' (k0 + (auS xss j : Nat) + x.sh.length) _ HO1.out (by omega) (by omega) (by omega)).mono ?_
      rintro e w3 ⟨rfl, o3, c3⟩
      have k2 := HNX1.out w3 _ c3 o3
      have K1 : Hid ((cauths ((mkAS k0 xss).take (j + 1) ++ xss.drop (j + 1))).own w3 F (.slice (some ⟨g, 0, none⟩) n c)) := by
        have h9 := auth_set2 ((mkAS k0 xss).take j ++ xss.drop j) j (x.mkd (k0 + (auS xss j : Nat))) (by rw [HLL.out]; exact hlt)
        rw [HST.out] at h9
        unfold AuM.mkd at h9
        simp only at h9
        rw [h9] at k2
        exact k2
      have C3 := Lib.hid (C2.out.trans (c3.mono fun y hy => HSUB1.out y hy))
      clear o3 c3 k2 C2
      go_wp2_with fail
      go_roundw
      case rel => exact ⟨j + 1, by omega, by go_num, by rw [HS.out, hsz]; go_num, K1.out, C3.out⟩
      case measure => simp [intOf]; omega
    · have hjn : j = n := by omega
      subst hjn
      go_wp2_with fail
      go_ret
      have hF := hown.out
      have hl := LX.out
      rw [List.take_of_length_le (by rw [mkAS_len]; omega), List.drop_of_length_le (by omega), List.append_nil] at hF
      exact ⟨rfl, hF, hch.out⟩
set_option maxHeartbeats 1600000 in
theorem heldAuthS_z (xss : List AuM) (v : Value) (k0 : Int) (w : World) (h : (cauths (mkAS k0 xss)).rd w v) (hn : szA xss ≤ 1048576) (h0 : 0 ≤ k0) (h1 : k0 ≤ 274877906944) :
    Calls Try.prog 106 #[v, .int .i64 k0] w fun e w' => e = .returned (.int .i64 (k0 + (auS xss xss.length : Nat))) ∧ w.grownBy w' none := by
  obtain ⟨A, c, rfl, hc, hm⟩ := cas_rd h
  rw [mkAS_len] at hc h ⊢
  have HX := Lib.hid h
  unfold szA at hn
  obtain ⟨n, hnn⟩ : ∃ n, xss.length = n := ⟨_, rfl⟩
  rw [hnn] at hc hn HX ⊢
  have LX := Lib.hid hnn
  unfold maxLen at hm
  clear h hnn
  go_enter Try.func106, Try.ntmps106
  go_wp2_with fail
  go_loopw [1, 5] (fun s i wr => ∃ j : Nat, j ≤ n ∧ i = .int .i64 j ∧ s = .int .i64 (k0 + (auS xss j : Nat)) ∧ Hid (w.grownBy wr none)) (fun _ i _ => n - (intOf i).toNat)
  case atStart => exact ⟨0, Nat.zero_le _, rfl, by rw [auS_zero]; go_num, gbR _ _⟩
  case round =>
    obtain ⟨j, hj, rfl, rfl, hG⟩ := hrel
    by_cases hlt : j < n
    · have HXr := CS.grow _ HX.out hG.out
      obtain ⟨b, o, y, rfl, hb, hy, hcel⟩ := lst_at (s := 2) (fun _ => rfl) (by omega) HXr hlt
      have hjx : j < xss.length := by have := LX.out; omega
      have hx : xss[j]? = some xss[j] := List.getElem?_eq_getElem hjx
      have HS := Lib.hid (auS_succ xss j _ hx)
      have HM := Lib.hid (auS_mono xss (show j + 1 ≤ n by omega))
      rw [mkAS_get, hx] at hy
      generalize xss[j] = x at *
      simp at hy
      subst hy
      obtain ⟨u0, q0, r0⟩ := hcel 0 (cints (marks (k0 + (auS xss j : Nat)) x.sh.length)) rfl
      obtain ⟨u1, q1, r1⟩ := hcel 1 (cints (marks (k0 + (auS xss j : Nat) + x.sh.length) x.mc.length)) rfl
      simp only [Nat.add_zero, ← Nat.add_assoc] at q0 q1
      have R0 := Lib.hid r0
      have R1 := Lib.hid r1
      have Q1 := Lib.hid q1
      have hsz : x.sz = x.sh.length + x.mc.length := rfl
      have hb1 : auS xss j + x.sz ≤ 1048576 := by
        have h1 := HS.out; have h2 := HM.out; omega
      have hb2 : ¬ (k0 + (auS xss j : Nat) + (x.sh.length : Int) < 0) := by omega
      have hb3 : ¬ (k0 + (auS xss j : Nat) + (x.sh.length : Int) + (x.mc.length : Int) < 0) := by omega
      have i1 : (j : Int) < (n : Int) := by omega
      clear hx r0 r1 hcel HXr
      go_wp2_with fail
      refine (heldIntS_k x.sh.length u0 (k0 + (auS xss j : Nat)) _ R0.out (by omega) (by omega) (by omega)).mono ?_
      rintro e w2 ⟨rfl, g2⟩
      have G2 := Lib.hid (gbT hG.out g2)
      have q1' := gbk g2 Q1.out
      have R1' := Lib.hid (CS.grow _ R1.out g2)
      clear g2 q0 q1
      go_wp2_with fail
      refine (heldIntS_k x.mc.length u1 (k0 + (auS xss j : Nat) + x.sh.length) _ R1'.out (by omega) (by omega) (by omega)).mono ?_
      rintro e w3 ⟨rfl, g3⟩
      have G3 := Lib.hid (gbT G2.out g3)
      clear g3 q1'
      go_wp2_with fail
      go_roundw
      case rel => exact ⟨j + 1, by omega, by go_num, by rw [HS.out, hsz]; go_num, G3.out⟩
      case measure => simp [intOf]; omega
    · have hjn : j = n := by omega
      subst hjn
      go_wp2_with fail
      go_ret
      exact ⟨rfl, hG.out⟩
end Go.Proofs.Ythaadgdeadbhkaa
/-
  The laws' helpers on Engine, by what it reads as (printed by wip/gen_engk.py).
-/
namespace Go.Proofs.Ythaadgdeadbhkaa
open Go.RowKit
set_option linter.unusedVariables false
set_option linter.unusedSimpArgs false
def EM.sz (m : EM) : Nat := m.k.sz + m.c.sz + szA m.vs + m.op.length
def EM.cnt (k : Int) (m : EM) : Int := m.c.cnt (m.k.cnt k) + (auS m.vs m.vs.length : Nat) + m.op.length
def EM.mkd (k : Int) (m : EM) : EM := { m with k := m.k.mkd k, c := m.c.mkd (m.k.cnt k), vs := mkAS (m.c.cnt (m.k.cnt k)) m.vs, op := marks (m.c.cnt (m.k.cnt k) + (auS m.vs m.vs.length : Nat)) m.op.length }
theorem ownL.chg {lo : Nat} {cs : List CS} {vs : List Value} {w w' : World} {S : Nat → Prop} (h : ownL lo cs vs w) (k : Chg S w w') (hS : ∀ y, S y → y < lo) : ownL lo cs vs w' := by
  obtain ⟨Fs, h1, h2⟩ := h
  exact ⟨Fs, h1.kept fun g hg => k.block g (h1.lt g hg) (fun hs => by have := h2 g hg; have := hS g hs; omega), h2⟩
theorem ownL.of {lo : Nat} {cs : List CS} {F : List Nat} {vs : List Value} {w : World} (h : AggO w cs F (.agg vs.toArray)) (k : ∀ g ∈ F, lo ≤ g) : ownL lo cs vs w := aggF.all ⟨F, h, k⟩
theorem own_F1 {xs : List Int} {w : World} {F : List Nat} {v : Value} (h : (cints xs).own w F v) : F = v.ownBlock.toList := by
  obtain ⟨_, _, _, e, _⟩ := cints_row h
  exact e
theorem own_F3 {xs : List (Int × Int × Int)} {w : World} {F : List Nat} {v : Value} (h : (csteps xs).own w F v) : F = v.ownBlock.toList := by
  obtain ⟨_, _, _, e, _⟩ := plst_row (s := 3) (fun _ => rfl) (by omega) h
  exact e
theorem ownL.one {lo : Nat} {c : CS} {F : List Nat} {v : Value} {w : World} (h : c.own w F v) (k : ∀ g ∈ F, lo ≤ g) : ownL lo [c] [v] w := ownF.one ⟨F, h, k⟩
theorem cengine_oopen {w : World} {m : EM} {F : List Nat} {v : Value} (h : AggO w (cengine m) F v) : ∃ u1 u3 u4 u5 u6 F1 F3 F4 F5 F6, v = .agg #[.int .i64 m.k.p, u1, .int .i64 m.c.p, u3, u4, u5, u6, .int .i64 m.rd, .bool m.bad] ∧ F = [[], F1, [], F3, F4, F5, F6, [], []].flatten ∧ (cints m.k.al).own w F1 u1 ∧ (csteps m.c.st).own w F3 u3 ∧ (cints m.c.outs).own w F4 u4 ∧ (cauths m.vs).own w F5 u5 ∧ (cints m.op).own w F6 u6 ∧ (∀ g ∈ F1, g ∉ F3) ∧ (∀ g ∈ F1, g ∉ F4) ∧ (∀ g ∈ F1, g ∉ F5) ∧ (∀ g ∈ F1, g ∉ F6) ∧ (∀ g ∈ F3, g ∉ F4) ∧ (∀ g ∈ F3, g ∉ F5) ∧ (∀ g ∈ F3, g ∉ F6) ∧ (∀ g ∈ F4, g ∉ F5) ∧ (∀ g ∈ F4, g ∉ F6) ∧ (∀ g ∈ F5, g ∉ F6) := by
  obtain ⟨vs, Fs, rfl, h, rfl⟩ := h
  obtain ⟨u0, vs0, F0, Fs0, rfl, rfl, h0, h, d0⟩ := OwnAll.head h
  obtain ⟨u1, vs1, F1, Fs1, rfl, rfl, h1, h, d1⟩ := OwnAll.head h
  obtain ⟨u2, vs2, F2, Fs2, rfl, rfl, h2, h, d2⟩ := OwnAll.head h
  obtain ⟨u3, vs3, F3, Fs3, rfl, rfl, h3, h, d3⟩ := OwnAll.head h
  obtain ⟨u4, vs4, F4, Fs4, rfl, rfl, h4, h, d4⟩ := OwnAll.head h
  obtain ⟨u5, vs5, F5, Fs5, rfl, rfl, h5, h, d5⟩ := OwnAll.head h
  obtain ⟨u6, vs6, F6, Fs6, rfl, rfl, h6, h, d6⟩ := OwnAll.head h
  obtain ⟨u7, vs7, F7, Fs7, rfl, rfl, h7, h, d7⟩ := OwnAll.head h
  obtain ⟨u8, vs8, F8, Fs8, rfl, rfl, h8, h, d8⟩ := OwnAll.head h
  obtain ⟨rfl, rfl⟩ := OwnAll.none h
  obtain ⟨rfl, rfl, _⟩ := h0
  obtain ⟨rfl, rfl, _⟩ := h2
  obtain ⟨rfl, rfl, _⟩ := h7
  obtain ⟨rfl, rfl, _⟩ := h8
  exact ⟨u1, u3, u4, u5, u6, F1, F3, F4, F5, F6, rfl, rfl, h1, h3, h4, h5, h6, fun g hg hg' => d1 g hg (by simp [hg']), fun g hg hg' => d1 g hg (by simp [hg']), fun g hg hg' => d1 g hg (by simp [hg']), fun g hg hg' => d1 g hg (by simp [hg']), fun g hg hg' => d3 g hg (by simp [hg']), fun g hg hg' => d3 g hg (by simp [hg']), fun g hg hg' => d3 g hg (by simp [hg']), fun g hg hg' => d4 g hg (by simp [hg']), fun g hg hg' => d4 g hg (by simp [hg']), fun g hg hg' => d5 g hg (by simp [hg'])⟩
theorem cengine_omk {w : World} {m : EM} {u1 u3 u4 u5 u6 : Value} {F1 F3 F4 F5 F6 : List Nat} (h1 : (cints m.k.al).own w F1 u1) (h3 : (csteps m.c.st).own w F3 u3) (h4 : (cints m.c.outs).own w F4 u4) (h5 : (cauths m.vs).own w F5 u5) (h6 : (cints m.op).own w F6 u6) (d13 : ∀ g ∈ F1, g ∉ F3) (d14 : ∀ g ∈ F1, g ∉ F4) (d15 : ∀ g ∈ F1, g ∉ F5) (d16 : ∀ g ∈ F1, g ∉ F6) (d34 : ∀ g ∈ F3, g ∉ F4) (d35 : ∀ g ∈ F3, g ∉ F5) (d36 : ∀ g ∈ F3, g ∉ F6) (d45 : ∀ g ∈ F4, g ∉ F5) (d46 : ∀ g ∈ F4, g ∉ F6) (d56 : ∀ g ∈ F5, g ∉ F6) : AggO w (cengine m) [[], F1, [], F3, F4, F5, F6, [], []].flatten (.agg #[.int .i64 m.k.p, u1, .int .i64 m.c.p, u3, u4, u5, u6, .int .i64 m.rd, .bool m.bad]) := ⟨_, _, rfl, (OwnAll.cons (ci_own _ _) (OwnAll.cons h1 (OwnAll.cons (ci_own _ _) (OwnAll.cons h3 (OwnAll.cons h4 (OwnAll.cons h5 (OwnAll.cons h6 (OwnAll.cons (ci_own _ _) (OwnAll.cons (cb_own _ _) (OwnAll.nil _) (by simp)) (by simp)) (fun g hg => by simp)) (fun g hg => by simp [d56 g hg])) (fun g hg => by simp [d45 g hg, d46 g hg])) (fun g hg => by simp [d34 g hg, d35 g hg, d36 g hg])) (by simp)) (fun g hg => by simp [d13 g hg, d14 g hg, d15 g hg, d16 g hg])) (by simp)), rfl⟩
def EM.wf (m : EM) : Prop := m.k.wf ∧ m.c.wf ∧ (∀ x ∈ m.vs, x.wf) ∧ (∀ z ∈ m.op, i64w z) ∧ i64w m.rd
end Go.Proofs.Ythaadgdeadbhkaa
