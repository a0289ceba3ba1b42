/-
  The laws' marks on slices of Auths.
-/
import Derived.Test.YthaadgdeadbhkaaMgFnExactEngineOutputs33
namespace Go.Proofs.Ythaadgdeadbhkaa
open Go.RowKit
set_option linter.unusedVariables false
set_option linter.unusedSimpArgs false
def mkAS (k : Int) : List AuM → List AuM
  | [] => []
  | x :: xs => x.mkd k :: mkAS (k + (x.sz : Nat)) xs
theorem mkAS_len (xss : List AuM) : ∀ k, (mkAS k xss).length = xss.length := by
  induction xss with
  | nil => intro k; rfl
  | cons x xs ih => intro k; rw [mkAS, List.length_cons, ih, List.length_cons]
theorem mkAS_get (xss : List AuM) : ∀ (k : Int) (j : Nat), (mkAS k xss)[j]? = xss[j]?.map fun x => x.mkd (k + (auS xss j : Nat)) := by
  induction xss with
  | nil => intro k j; simp [mkAS]
  | cons x xs ih =>
    intro k j
    cases j with
    | zero => simp [mkAS, auS]
    | succ j =>
      rw [mkAS, List.getElem?_cons_succ, ih, List.getElem?_cons_succ]
      have : auS (x :: xs) (j + 1) = x.sz + auS xs j := by simp [auS]
      rw [this]
      cases xs[j]? with
      | none => rfl
      | some y => simp only [Option.map_some]; congr 2; omega
theorem mkAS_step (xss : List AuM) (k : Int) (j : Nat) (x : AuM) (h : xss[j]? = some x) : ((mkAS k xss).take j ++ xss.drop j).set j (x.mkd (k + (auS xss j : Nat))) = (mkAS k xss).take (j + 1) ++ xss.drop (j + 1) := by
  obtain ⟨hj, rfl⟩ := List.getElem?_eq_some_iff.1 h
  have hl := mkAS_len xss k
  have hg := mkAS_get xss k j
  rw [h] at hg
  rw [List.set_append_right _ _ (by simp; omega), List.length_take, Nat.min_eq_left (by omega), Nat.sub_self, List.drop_eq_getElem_cons hj, List.set_cons_zero]
  have hj' : j < (mkAS k xss).length := by omega
  rw [List.take_succ_eq_append_getElem hj', List.append_assoc]
  have : (mkAS k xss)[j] = (xss[j]).mkd (k + (auS xss j : Nat)) := by
    rw [List.getElem?_eq_getElem hj'] at hg; simpa using hg
  rw [this]
  rfl
set_option maxHeartbeats 1600000 in
theorem markAuthS_z (xss : List AuM) (v : Value) (F : List Nat) (k0 : Int) (w : World) (h : (cauths xss).own w F v) (hn : szA xss ≤ 1048576) (h0 : 0 ≤ k0) (h1 : k0 ≤ 274877906944) :
    Calls Try.prog 99 #[v, .int .i64 k0] w fun e w' => e = .returned (.int .i64 (k0 + (auS xss xss.length : Nat))) ∧ (cauths (mkAS k0 xss)).own w' F v ∧ Chg (fun g => g ∈ F) w w' := by
  obtain ⟨A, c, rfl, hc, hm⟩ := cas_rd (CS.toRd _ h)
  have HX := Lib.hid h
  unfold szA at hn
  obtain ⟨n, hnn⟩ : ∃ n, xss.length = n := ⟨_, rfl⟩
  rw [hnn] at hc hn HX ⊢
  have LX := Lib.hid hnn
  unfold maxLen at hm
  clear h hnn
  go_enter Try.func99, Try.ntmps99
  go_wp2_with fail
  go_loopw [1, 5] (fun s i wr => ∃ j : Nat, j ≤ n ∧ i = .int .i64 j ∧ s = .int .i64 (k0 + (auS xss j : Nat)) ∧ Hid ((cauths ((mkAS k0 xss).take j ++ xss.drop j)).own wr F (.slice A n c)) ∧ Hid (Chg (fun g => g ∈ F) w wr)) (fun _ i _ => n - (intOf i).toNat)
  case atStart => exact ⟨0, Nat.zero_le _, rfl, by rw [auS_zero]; go_num, by simpa [Hid] using HX.out, Chg.refl _ _⟩
  case round =>
    obtain ⟨j, hj, rfl, rfl, hown, hch⟩ := hrel
    by_cases hlt : j < n
    · have hF := hown.out
      have hjx : j < xss.length := by have := LX.out; omega
      have hx : xss[j]? = some xss[j] := List.getElem?_eq_getElem hjx
      have HS := Lib.hid (auS_succ xss j _ hx)
      have HM := Lib.hid (auS_mono xss (show j + 1 ≤ n by omega))
      have hst := mkAS_step xss k0 j _ hx
      generalize xss[j] = x at *
      have hll : ((mkAS k0 xss).take j ++ xss.drop j).length = n := by rw [List.length_append, List.length_take, mkAS_len, List.length_drop]; have := LX.out; omega
      have hlist : ((mkAS k0 xss).take j ++ xss.drop j)[j]? = some x := by
        rw [List.getElem?_append_right (by simp; omega), List.length_take, mkAS_len, Nat.min_eq_left (by omega), Nat.sub_self, List.getElem?_drop]
        simpa using hx
      obtain ⟨g, rfl, hgF⟩ := cauths_ptr hF (by rw [hll]; omega)
      have hd0 : (((mkAS k0 xss).take j ++ xss.drop j).flatMap cauth)[j * 2]? = some (cints x.sh) := by
        have := flat_get (sz := 2) (F := cauth) (fun _ => rfl) ((mkAS k0 xss).take j ++ xss.drop j) j 0 (by omega)
        rw [hlist] at this
        exact this
      have hd1 : (((mkAS k0 xss).take j ++ xss.drop j).flatMap cauth)[j * 2 + 1]? = some (cints x.mc) := by
        have := flat_get (sz := 2) (F := cauth) (fun _ => rfl) ((mkAS k0 xss).take j ++ xss.drop j) j 1 (by omega)
        rw [hlist] at this
        exact this
      obtain ⟨u0, F0, q0, ho0, hsub0, hnext0⟩ := row_inner2 hF hd0
      obtain ⟨u1, F1, q1, _, _, _⟩ := row_inner2 hF hd1
      have i1 : (j : Int) < (n : Int) := by omega
      have hsz : x.sz = x.sh.length + x.mc.length := rfl
      have hb1 : auS xss j + x.sz ≤ 1048576 := by
        have h1 := HS.out; have h2 := HM.out; omega
      have HO := Lib.hid ho0
      have HNX := Lib.hid hnext0
      have HSUB := Lib.hid hsub0
      have HST := Lib.hid hst
      have HD1 := Lib.hid hd1
      have HLL := Lib.hid hll
      clear hx hst hlist hd0 hd1 ho0 hnext0 hsub0 hown hF hll q1
      go_wp2_with fail
      refine (markIntS_k x.sh u0 F0 (k0 + (auS xss j : Nat)) _ HO.out (by omega) (by omega) (by omega)).mono ?_
      rintro e w2 ⟨rfl, o2, c2⟩
      have k1 := HNX.out w2 _ c2 o2
      have hd1' : ((((mkAS k0 xss).take j ++ xss.drop j).flatMap cauth).set (j * 2) (cints (marks (k0 + (auS xss j : Nat)) x.sh.length)))[j * 2 + 1]? = some (cints x.mc) := by
        rw [List.getElem?_set_ne (by omega)]; exact HD1.out
      obtain ⟨u1', F1', q1, ho1, hsub1, hnext1⟩ := row_inner2 k1 hd1'
      have C2 := Lib.hid (hch.out.trans (c2.mono fun y hy => HSUB.out y hy))
      have HO1 := Lib.hid ho1
      have HNX1 := Lib.hid hnext1
      have HSUB1 := Lib.hid hsub1
      clear o2 c2 k1 hch ho1 hnext1 hsub1 hd1'
      go_wp2_with fail
      refine (markIntS_k x.mc u1' F1' (k0 + (auS xss j : Nat) + x.sh.length) _ HO1.out (by omega) (by omega) (by omega)).mono ?_
      rintro e w3 ⟨rfl, o3, c3⟩
      have k2 := HNX1.out w3 _ c3 o3
      have K1 : Hid ((cauths ((mkAS k0 xss).take (j + 1) ++ xss.drop (j + 1))).own w3 F (.slice (some ⟨g, 0, none⟩) n c)) := by
        have h9 := auth_set2 ((mkAS k0 xss).take j ++ xss.drop j) j (x.mkd (k0 + (auS xss j : Nat))) (by rw [HLL.out]; exact hlt)
        rw [HST.out] at h9
        unfold AuM.mkd at h9
        simp only at h9
        rw [h9] at k2
        exact k2
      have C3 := Lib.hid (C2.out.trans (c3.mono fun y hy => HSUB1.out y hy))
      clear o3 c3 k2 C2
      go_wp2_with fail
      go_roundw
      case rel => exact ⟨j + 1, by omega, by go_num, by rw [HS.out, hsz]; go_num, K1.out, C3.out⟩
      case measure => simp [intOf]; omega
    · have hjn : j = n := by omega
      subst hjn
      go_wp2_with fail
      go_ret
      have hF := hown.out
      have hl := LX.out
      rw [List.take_of_length_le (by rw [mkAS_len]; omega), List.drop_of_length_le (by omega), List.append_nil] at hF
      exact ⟨rfl, hF, hch.out⟩
end Go.Proofs.Ythaadgdeadbhkaa
