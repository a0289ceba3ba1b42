/-
  KeysNew of the reference.
-/
import Derived.Test.YthaadgdeadbhkaaMgFnCosts10
import Derived.Test.YthaadgdeadbhkaaMgFnCosts22
import Derived.Test.YthaadgdeadbhkaaMgFnCosts17
import Derived.Test.YthaadgdeadbhkaaMgFnCosts7
import Derived.Test.YthaadgdeadbhkaaMgFnCosts6
import Derived.Lib.AppendZerosOnto
import Derived.Test.YthaadgdeadbhkaaMgFnCosts19
import Derived.Test.YthaadgdeadbhkaaMgFnCosts21
namespace Go.Proofs.Ythaadgdeadbhkaa
open Go.RowKit
set_option linter.unusedVariables false
set_option linter.unusedSimpArgs false
set_option maxHeartbeats 2000000 in
set_option maxRecDepth 100000 in
theorem specKeysNew_yes (P s a n : Nat) (w0 : World) (hf : fieldB (P : Int) = true) (hn1 : 1 ≤ n) (hn : n ≤ 5) (hs : s < 4294967296) (ha : a ≤ 900000) :
    Calls Try.prog 108 #[.int .i64 P, .int .i64 n, .agg #[.int .i64 s, .int .i64 a]] w0 fun e w' => ∃ A c t, e = .returned (.tuple #[.agg #[.int .i64 P, .slice A n c], .agg #[.int .i64 s, .int .i64 t], .bool true]) ∧ w'.ownsRow w0.heap.size 3 1 (.slice A n c) n ((tapeL s a P n).map (Value.int .i64)) ∧ w0.grownBy w' none := by
  obtain ⟨p2, p101⟩ := field_range hf
  obtain ⟨w1, hw1⟩ : ∃ y : World, ((w0.alloc (.cells #[.int .i64 s, .int .i64 a] 31)).alloc (.cells #[.int .i64 0, .slice none 0 0] 26)).alloc (.cells #[.int .i64 0, .int .i64 0] 31) = y := ⟨_, rfl⟩
  have G1 : Hid (w0.grownBy w1 none) := by rw [← hw1]; exact gbA (gbA (gbA (gbR _ _) _) _) _
  have z1 : Hid (w1.heap.size = w0.heap.size + 3) := by rw [← hw1]; exact Lib.hid (by simp)
  have D0 : Hid (Blk w1 w0.heap.size 31 #[.int .i64 s, .int .i64 a]) := by rw [← hw1]; exact ((Blk.new w0 _ _).grow (gbA (gbR _ _) _)).grow (gbA (gbR _ _) _)
  have D1 : Hid (Blk w1 (w0.heap.size + 1) 26 #[.int .i64 0, .slice none 0 0]) := by rw [← hw1]; exact (Blk.new' _ _ _ _ (by simp)).grow (gbA (gbR _ _) _)
  have D2 : Hid (Blk w1 (w0.heap.size + 1 + 1) 31 #[.int .i64 0, .int .i64 0]) := by rw [← hw1]; exact Blk.new' _ _ _ _ (by simp)
  have HF := Lib.hid hf
  have q1 := Lib.hid (inQ_yes (z := (n : Int)) (a := 1) (b := 5) (by omega) (by omega))
  clear hf
  go_enter Try.func108, Try.ntmps108
  go_wp2_with fail
  refine (specFieldOk_c P _ (by omega)).mono ?_
  rintro e w2 ⟨rfl, rfl⟩
  rw [HF.out]
  have y0 := D0.out.cell 0
  have y1 := D0.out.cell 1
  simp at y0 y1
  go_wp2_with fail
  refine (specInq_c n 1 5 _).mono ?_
  rintro e w2 ⟨rfl, rfl⟩
  rw [q1.out]
  go_wp2_with fail
  refine (specl06Tape_yes s a _ hs ha).mono ?_
  rintro e w2 ⟨rfl, g2⟩
  have E0 := Lib.hid (D0.out.grow g2)
  have E1 := Lib.hid (D1.out.grow g2)
  have E2 := Lib.hid (D2.out.grow g2)
  have G2 := Lib.hid (gbT G1.out g2)
  have hz2 := g2.size
  clear g2 y0 y1
  have y0 := E0.out.cell 0
  have y1 := E0.out.cell 1
  simp at y0 y1
  clear D0 D1 D2 G1 hw1
  go_wp2_with fail
  clear y0 y1
  refine (specTapeList_yes s a P n w2 hs (by omega) (by omega) (by omega) (by omega)).mono ?_
  rintro e w3 ⟨v, rfl, o3, g3⟩
  obtain ⟨A, c, rfl, _, _⟩ := own_form o3
  obtain ⟨t, ht⟩ : ∃ t : Nat, a + n = t := ⟨_, rfl⟩
  rw [ht]
  have O3 := Lib.hid o3
  have E1' := Lib.hid (E1.out.grow g3)
  have E2' := Lib.hid (E2.out.grow g3)
  have G3 := Lib.hid (gbT G2.out g3)
  have hz3 := z1.out
  have hz4 := g3.size
  clear o3 g3 ht E0 E1 E2 G2
  go_wp2_with fail
  obtain ⟨g10, hg10⟩ : ∃ x, w3.heap.size = x := ⟨_, rfl⟩
  obtain ⟨wk, hw4⟩ : ∃ x : World, w3.alloc (.cells #[.int .i64 s, .int .i64 t] 31) = x := ⟨_, rfl⟩
  have B10 : Hid (Blk wk g10 31 #[.int .i64 s, .int .i64 t]) := by rw [← hw4, ← hg10]; exact Lib.hid (Blk.new _ _ _)
  have DA : Hid (Blk wk (w0.heap.size + 1) 26 #[.int .i64 0, .slice none 0 0]) := by rw [← hw4]; exact Lib.hid (E1'.out.grow (gbA (gbR _ _) _))
  have DT : Hid (Blk wk (w0.heap.size + 1 + 1) 31 #[.int .i64 0, .int .i64 0]) := by rw [← hw4]; exact Lib.hid (E2'.out.grow (gbA (gbR _ _) _))
  have O4 : Hid (wk.ownsRow w2.heap.size 3 1 (.slice A n c) n ((tapeL s a P n).map (Value.int .i64))) := by rw [← hw4]; exact Lib.hid (own_grow O3.out (gbA (gbR _ _) _))
  have G4 : Hid (w0.grownBy wk none) := by rw [← hw4]; exact Lib.hid (gbA G3.out _)
  rw [hw4]
  try rw [hg10]
  have h10 : w0.heap.size + 3 ≤ g10 := by omega
  clear hw4 hg10 E1' E2' G3 O3
  obtain ⟨gA, hgA⟩ : ∃ g, w0.heap.size + 1 = g := ⟨_, rfl⟩
  obtain ⟨gU, hgU⟩ : ∃ g, gA + 1 = g := ⟨_, rfl⟩
  rw [hgA] at DA DT
  rw [hgU] at DT
  try rw [hgA]
  try rw [hgU]
  have O4h := Lib.hid O4.out
  clear O4
  have hT1 : gA ≠ g10 := by omega
  have hT2 : gU ≠ g10 := by omega
  have hT3 : gA ≠ gU := by omega
  refine region_chain [.rd (.int .i64 P), .rd (.slice A n c), .rd (.agg #[.int .i64 P, .slice A n c]), .rd (.agg #[.int .i64 s, .int .i64 t]), .ch, .ch, .ch] (fun z => z = gA ∨ z = gU)
    [⟨[], fun _ w' => w' = wk.drew⟩,
     ⟨[], fun l w' => Blk w' gA 26 #[.int .i64 P, .slice A n c] ∧ Chg (fun z => z = gA) wk.drew w'⟩,
     ⟨[], fun l w' => Blk w' gA 26 #[.int .i64 P, .slice A n c] ∧ Blk w' gU 31 #[.int .i64 s, .int .i64 t] ∧ Chg (fun z => z = gA ∨ z = gU) wk.drew w'⟩,
     ⟨[8], fun l w' => l.getD 0 undef = .bool true ∧ Blk w' gA 26 #[.int .i64 P, .slice A n c] ∧ Blk w' gU 31 #[.int .i64 s, .int .i64 t] ∧ Chg (fun z => z = gA ∨ z = gU) wk.drew w'⟩]
    (by kernel_rfl) (by kernel_rfl) (by kernel_rfl) 3 (by kernel_rfl) (by simp only [flOk, and_true]) rfl rfl ?_ ?_
  · simp only [hopsK, hopK, Kd.next, and_true]
    refine ⟨?_, ?_, ?_, ?_, ?_, ?_, ?_⟩
    · intro f w4 hG hd
      (try simp [depsC, dstAt, kAt, bindE, List.filter_cons, bd_data, bd_chain, bd_guard, bd_phase, bd_text, bd_gc] at hd)
      (first | simp [puts, dsts, Act.put, hd] | simp [puts, dsts, Act.put])
      clear hd
      go_wp2_with fail
      exact ⟨rfl, rfl⟩
    · intro f w4 hG hd
      (try simp [depsC, dstAt, kAt, bindE, List.filter_cons, bd_data, bd_chain, bd_guard, bd_phase, bd_text, bd_gc] at hd)
      (first | simp [puts, dsts, Act.put, hd] | simp [puts, dsts, Act.put])
      clear hd
      go_wp2_with fail
      exact ⟨rfl, rfl⟩
    · intro f w4 hG hd
      (try simp [depsC, dstAt, kAt, bindE, List.filter_cons, bd_data, bd_chain, bd_guard, bd_phase, bd_text, bd_gc] at hd)
      (first | simp [puts, dsts, Act.put, hd] | simp [puts, dsts, Act.put])
      clear hd
      go_wp2_with fail
      exact ⟨rfl, rfl⟩
    · intro f w4 hG hd
      have B4 := (B10.out.grow (gbD (gbR wk none))).chg hG (by omega)
      have b0 := B4.cell 0
      have b1 := B4.cell 1
      simp at b0 b1
      (try simp [depsC, dstAt, kAt, bindE, List.filter_cons, bd_data, bd_chain, bd_guard, bd_phase, bd_text, bd_gc] at hd)
      (first | simp [puts, dsts, Act.put, hd] | simp [puts, dsts, Act.put])
      clear hd
      go_wp2_with fail
      exact ⟨rfl, rfl⟩
    · intro f w4 hG hI hd
      have hI : w4 = wk.drew := hI
      subst hI
      (try simp [depsC, dstAt, kAt, bindE, List.filter_cons, bd_data, bd_chain, bd_guard, bd_phase, bd_text, bd_gc] at hd)
      have R4 := DA.out.grow (gbD (gbR wk none))
      have f0 := R4.frozen 0
      have f1 := R4.frozen 1
      have g0 := DA.out.frozen 0
      have g1 := DA.out.frozen 1
      have b0 := R4.cell 0
      have b1 := R4.cell 1
      simp at b0 b1
      have RS := (blk_setCells DA.out [.int .i64 P, .slice A n c] rfl).grow (gbD (gbR _ none))
      have CH := chgDD (chg_setCells gA [.int .i64 P, .slice A n c] 0 wk)
      have CW := CH.mono (T := fun z => z = gA ∨ z = gU) (fun z h => .inl h)
      simp only [setCells, Nat.zero_add, Nat.reduceAdd] at RS CH CW
      have RSH := Lib.hid RS
      have CHH := Lib.hid CH
      have CWH := Lib.hid CW
      clear R4 RS CH CW
      (first | simp [puts, dsts, Act.put, hd] | simp [puts, dsts, Act.put])
      clear hd
      go_wp2_with fail
      exact ⟨rfl, ⟨.bool false, RSH.out, CHH.out⟩, CWH.out, by simp [keepsC]⟩
    · intro f w4 hG hI hd
      obtain ⟨B2, C2⟩ := hI
      have C2 : Chg (fun z => z = gA) wk.drew w4 := C2
      (try simp [depsC, dstAt, kAt, bindE, List.filter_cons, bd_data, bd_chain, bd_guard, bd_phase, bd_text, bd_gc] at hd)
      have R4 := (DT.out.grow (gbD (gbR wk none))).chg C2 (by omega)
      have f0 := R4.frozen 0
      have f1 := R4.frozen 1
      have b0 := R4.cell 0
      have b1 := R4.cell 1
      simp at b0 b1
      have RS := blk_setCells R4 [.int .i64 s, .int .i64 t] rfl
      have CH := chg_setCells gU [.int .i64 s, .int .i64 t] 0 w4
      have BS := B2.chg CH (by omega)
      have CX := (C2.mono (T := fun z => z = gA ∨ z = gU) (fun z h => .inl h)).trans (CH.mono (fun z h => .inr h))
      have CW := CH.mono (T := fun z => z = gA ∨ z = gU) (fun z h => .inr h)
      simp only [setCells, Nat.zero_add, Nat.reduceAdd] at RS BS CX CW
      have RSH := Lib.hid RS
      have BSH := Lib.hid BS
      have CXH := Lib.hid CX
      have CWH := Lib.hid CW
      clear R4 RS CH BS CX CW B2 C2
      (first | simp [puts, dsts, Act.put, hd] | simp [puts, dsts, Act.put])
      clear hd
      go_wp2_with fail
      exact ⟨rfl, ⟨.bool false, BSH.out, RSH.out, CXH.out⟩, CWH.out, by simp [keepsC]⟩
    · intro f w4 hG hI hd
      obtain ⟨B2, B3, C2⟩ := hI
      clear hd
      simp [puts, dsts, Act.put]
      go_wp2_with fail
      exact ⟨.bool true, rfl, rfl, B2, B3, C2⟩
  intro f w5 hI hd
  simp only [puts, dsts, Act.put, List.filterMap_cons, List.filterMap_nil, List.setIfInBounds_toArray, List.set_cons_zero, List.set_cons_succ]
  obtain ⟨e8, B2, B3, C2⟩ := hI
  have e8' : f 8 = .bool true := e8
  rw [e8']
  have C2 := chgDr C2
  have BA := Lib.hid B2
  have BU := Lib.hid B3
  have O5 := Lib.hid (own_typ O4h.out C2 (fun y hy _ => by rcases hy with rfl | rfl; exact ⟨_, _, DA.out, by decide⟩; exact ⟨_, _, DT.out, by decide⟩))
  have GZ := Lib.hid (gbChg G4.out C2 (fun z hz => by rcases hz with hz | hz <;> omega))
  clear hd e8 e8' B2 B3 C2
  go_wp2_with fail
  refine ret_cct Try.results108 (by rfl) stKeys (cs := #[.int .i64 P, .slice A n c]) BA.out (by rfl) (by rfl) stTape (ds := #[.int .i64 s, .int .i64 t]) BU.out (by rfl) (by rfl) ?_
  exact ⟨A, c, t, rfl, own_base O5.out (by omega), GZ.out⟩
end Go.Proofs.Ythaadgdeadbhkaa
/-
  Drawn tapes.
-/
namespace Go.Proofs.Ythaadgdeadbhkaa
open Go.RowKit
set_option linter.unusedVariables false
set_option linter.unusedSimpArgs false
set_option maxHeartbeats 400000 in
theorem l04Tape_c (w : World) (g : Nat) (A : Option Addr) (n c : Nat) (bs : List Int) (hc : Cur w g A n c bs) :
    Calls Try.prog 110 #[.pointer (some ⟨g, 0, none⟩)] w fun e w' => ∃ s a : Nat, e = .returned (.agg #[.int .i64 s, .int .i64 a]) ∧ s < 4294967296 ∧ a < 50 ∧ Cur w' g A n c bs ∧ w.grownBy w' (some g) := by
  have HC := Lib.hid (hc.grow (gbA (gbR w none) (.cells #[.int .i64 0, .int .i64 0] 31)))
  have hgl := hc.lt
  have HL : Hid (0 < n → ∀ a, A = some a → a.block ≠ w.heap.size) := Lib.hid (hc.old (Nat.le_refl _))
  clear hc
  go_enter Try.func110, Try.ntmps110
  go_wp2_with fail
  refine (l02Word_c _ g A n c bs HC.out).mono ?_
  rintro e w1 ⟨x, rfl, hx, hc1, g1⟩
  have H1 := Lib.hid hc1
  have B1 := Lib.hid ((Blk.new w 31 #[.int .i64 0, .int .i64 0]).grown g1 (by simp; omega))
  have G1 := Lib.hid (gbT (gbW (r := some g) (gbA (gbR w none) _)) g1)
  obtain ⟨S, hS⟩ : ∃ S : Nat, x = S := ⟨x.toNat, by omega⟩
  subst hS
  clear hc1 g1
  go_wp2_with fail
  refine (l01Below_c _ 50 (by omega) g A n c bs H1.out).mono ?_
  rintro e w2 ⟨y, rfl, hy0, hy1, hc2, g2⟩
  have H2 := Lib.hid hc2
  have B2 := B1.out.grown g2 (by simp; omega)
  have G2 := Lib.hid (gbT G1.out g2)
  have hy1 := hy1 (by omega)
  obtain ⟨T, hT⟩ : ∃ T : Nat, y = T := ⟨y.toNat, by omega⟩
  subst hT
  have f0 := B2.frozen 0
  have f1 := B2.frozen 1
  have b0 := B2.cell 0
  have b1 := B2.cell 1
  simp at b0 b1
  have RS := Lib.hid (blk_setCells B2 [.int .i64 S, .int .i64 T] rfl)
  have CH := Lib.hid (chg_setCells w.heap.size [.int .i64 S, .int .i64 T] 0 w2)
  have lB := B2.lt
  clear B2 hc2 g2
  go_wp2_with fail
  refine ret_c Try.results110 (by rfl) stTape (cs := #[.int .i64 S, .int .i64 T]) RS.out (by rfl) (by rfl) ?_
  refine ⟨S, T, rfl, by omega, by omega, H2.out.kept CH.out (CH.out.block g H2.out.lt (fun e => by have e : g = w.heap.size := e; omega)) (fun hn a ha e => HL.out hn a ha e), ?_⟩
  refine ⟨CH.out.os.trans G2.out.os, CH.out.tape.trans G2.out.tape, CH.out.output.trans G2.out.output, Nat.le_trans G2.out.size CH.out.size, fun i hi hr => ?_⟩
  exact (CH.out.block i (Nat.lt_of_lt_of_le hi G2.out.size) (fun e => by have e : i = w.heap.size := e; omega)).trans (G2.out.block i hi hr)
end Go.Proofs.Ythaadgdeadbhkaa
/-
  append of zeros onto a row of one's own ('append(l, make([]T, m)...)').
-/
namespace Go.Proofs.Ythaadgdeadbhkaa
open Go.RowKit
set_option linter.unusedVariables false
set_option linter.unusedSimpArgs false
section
variable {P : Program}
theorem run_append_own_zeros (w : World) (base : Nat) (t tn ty e : TypeId) (i : TypeInfo) (z : Value) (size bytes : Nat) (kq kn : IntKind) (ht : P.underlying t = some (.slice e)) (htn : P.underlying tn = some (.int kn)) (hi : P.info? e = some i) (hz : i.zero = some z)
    (hsize : i.size = size) (hby : i.bytes = bytes) (hzs : z.cells.size = size) (hsz : 0 < size) (h1 : ∀ u ∈ z.cells.toList, u.oneCell' = true)
    (v : Value) (n : Nat) (hn0 : 0 < n) (xs : List Value) (hown : w.ownsRow base e size v n xs)
    (m : Nat) (hm : 0 < m) (h63 : n + m ≤ maxLen) (hbytes : (n + m) * bytes ≤ 140737488355328) (hbase : base ≤ w.heap.size) :
    ∃ v' w', (Builtin.append_ #[t, tn] ty #[v, .int kq m]).run P w = .ok v' w' ∧ w'.ownsRow base e size v' (n + m) (xs ++ (Builtin.zeroCells z.cells m).toList) ∧ w.grownBy w' v.ownBlock := by
  subst hsize
  subst hby
  have hsmall : n + m ≤ 9223372036854775807 := by simp only [maxLen] at h63; omega
  have hl : (Builtin.zeroCells z.cells m).toList.length = m * i.size := by rw [Array.length_toList, size_zeroCells, hzs]
  have hlen : (xs ++ (Builtin.zeroCells z.cells m).toList).length = (n + m) * i.size := by rw [List.length_append, hown.1, hl, Nat.add_mul]
  have hw : IntKind.i64.wrap (m : Int) = m := by rw [IntKind.wrap_i64]; omega
  have hneg : ¬ ((m : Int) < 0) := by omega
  have hns : ¬ (m * i.size = 0) := Nat.mul_ne_zero (by omega) (by omega)
  have hmb : m * i.bytes ≤ 140737488355328 := Nat.le_trans (Nat.mul_le_mul_right _ (by omega)) hbytes
  have h48i : ¬ (281474976710656 < (m : Int) * (i.bytes : Int)) := by rw [← Int.natCast_mul]; omega
  have hz1 : ∀ u ∈ (Builtin.zeroCells z.cells m).toList, u.oneCell' = true := by
    intro u hu
    refine h1 u ?_
    simp only [Builtin.zeroCells] at hu
    simp at hu
    obtain ⟨k, hk, hu⟩ := hu
    rw [getElem!_pos z.cells _ (Nat.mod_lt _ (by omega))] at hu
    rw [← hu]
    simp
  rcases hown.2 with ⟨rfl, rfl⟩ | ⟨g, cap, cur, rfl, hbg, hg, hnc, hcm, hcs, htake⟩
  · omega
  · by_cases hroom : n + m ≤ cap
    · have hfit : n * i.size + (Builtin.zeroCells z.cells m).toList.length ≤ cur.size := by rw [hl, hcs, ← Nat.add_mul]; exact Nat.mul_le_mul_right _ hroom
      have hst := run_storeCells_at P g (n * i.size) e (Builtin.zeroCells z.cells m).toList 0 cur w hg (by simpa using hfit) hz1
      simp only [Nat.add_zero] at hst
      have hr : (Builtin.append_ #[t, tn] ty #[.slice (some ⟨g, 0, none⟩) n cap, .int kq m]).run P w = .ok (.slice (some ⟨g, 0, none⟩) (n + m) cap) (w.setRow g (cur.toList.take (n * i.size) ++ (Builtin.zeroCells z.cells m).toList ++ cur.toList.drop (n * i.size + (Builtin.zeroCells z.cells m).toList.length)).toArray) := by
        simp [Builtin.append_, run_underlying ht, run_underlying htn, sizeOf, typeInfo, zeroValue, hi, hz, asInt, asIntOf, hw, hneg, hns, h48i, hroom, Addr.add_lit] at hst ⊢
        simp [hst]
      refine ⟨_, _, hr, ⟨hlen, .inr ⟨g, cap, _, rfl, hbg, setRow_heap w g cur _ e _ hg, hroom, hcm, ?_, ?_⟩⟩, ⟨rfl, rfl, rfl, by simp, fun k _ hk => setRow_other w g k _ (fun e => hk (by simp [Value.ownBlock, e]))⟩⟩
      · simp only [List.size_toArray, List.length_append, List.length_take, List.length_drop, Array.length_toList]
        rw [Array.length_toList] at hfit
        omega
      · rw [htake, ← hlen]
        exact List.take_left
    · have holds : ∀ j u, xs[j]? = some u → w.cell? ((⟨g, 0, none⟩ : Addr).add j) = some u := hown.cells (g := g) rfl
      have hold := run_firstCells_some (P := P) w.drew i.size n ⟨g, 0, none⟩ n cap xs hown.1 (fun j u hu => holds j u hu)
      have hr := Lib.run_append_grow_zeros (P := P) w t tn ty e i z kq kn ht htn hi hz (some ⟨g, 0, none⟩) n cap xs hold m hm hsz (by omega) (by omega) (by omega) (growslice_fits (by omega) hbytes)
      have hge := grownCap_ge w (n + m) cap e
      have hcm' : grownCap w (n + m) cap e ≤ maxLen := grownCap_le_maxLen w (n + m) cap e h63
      refine ⟨_, _, hr, ⟨hlen, .inr ⟨w.heap.size, _, _, rfl, hbase, heap_alloc_new w.drew _, hge, hcm', ?_, ?_⟩⟩, ⟨rfl, rfl, rfl, by simp, fun k hk _ => heap_alloc_old w.drew _ hk⟩⟩
      · simp only [Array.size_append, List.size_toArray, size_zeroCells, hzs, hown.1, ← Nat.add_mul]
        congr 1
        omega
      · simp only [Array.toList_append, List.append_assoc]
        rw [← List.append_assoc, ← hlen]
        exact List.take_left
variable {ops : Array Oper} {rest : List Oper} {o : Oper} {a : Act} {Q : Exit → Act → World → Prop}
theorem wp_appendZ (wr : World) {t tn e : TypeId} {z : Value} {size bytes : Nat} (E : El P t e z size bytes) {kn kq : IntKind} (htn : P.underlying tn = some (.int kn)) (h1 : ∀ u ∈ z.cells.toList, u.oneCell' = true) (hgd : o.guard = none) (s x : Operand)
    (ho : o.op = .call { callee := .builtin .append, args := #[s, x], argTypes := #[t, tn] })
    (base : Nat) (v : Value) (n : Nat) (hn0 : 0 < n) (xs : List Value) (hown : wr.ownsRow base e size v n xs) (hs : a.eval s = v) (m : Nat) (hm : 0 < m) (hx : a.eval x = .int kq m)
    (hn : n + m ≤ maxLen) (hb : (n + m) * bytes ≤ 140737488355328) (hbase : base ≤ wr.heap.size)
    (h : ∀ v' w', w'.ownsRow base e size v' (n + m) (xs ++ (Builtin.zeroCells z.cells m).toList) → wr.grownBy w' v.ownBlock → wpList P ops Q rest (a.put o.dst v') w') :
    wpList P ops Q (o :: rest) a wr := by
  obtain ⟨i, hi, hz0, hz1, hz2⟩ := info_parts E.hi
  obtain ⟨v', w', hr, h2, h3⟩ := run_append_own_zeros (P := P) wr base t tn o.type e i z size bytes kq kn E.ht htn hi hz0 hz1 hz2 E.hz E.hs h1 v n hn0 xs hown m hm hn hb hbase
  refine wpList_plain hgd fun _ hK => ?_
  unfold Oper.wp execOp
  simp only [ho, resolve, invoke, builtin, Sem.run_bind, Sem.run_pure, Result.andThen_ok, List.map_toArray, List.map_cons, List.map_nil, hs, hx, hr]
  exact hK _ _ (h v' w' h2 h3)
end
end Go.Proofs.Ythaadgdeadbhkaa
/-
  DrawArith: a drawn circuit and inputs that fit.
-/
namespace Go.Proofs.Ythaadgdeadbhkaa
open Go.RowKit
set_option linter.unusedVariables false
set_option linter.unusedSimpArgs false
theorem zeros_list (m : Nat) : (Builtin.zeroCells (Value.int .i64 0).cells m).toList = (List.replicate m (0 : Int)).map (Value.int .i64) := by
  apply List.ext_getElem?
  intro i
  have hc : (Value.int .i64 0).cells = #[.int .i64 0] := rfl
  simp [Builtin.zeroCells, hc, List.getElem?_map, List.getElem?_replicate]
  by_cases h : i < m
  · rw [List.getElem?_range h]
    simp [h, Nat.mod_one]
  · rw [List.getElem?_eq_none (by simpa using h)]
    simp [h]
set_option maxHeartbeats 400000 in
theorem l27Input_c (w : World) (p : Int) (hp0 : 1 ≤ p) (hp1 : p ≤ 1099511627776) (g : Nat) (A : Option Addr) (n c : Nat) (bs : List Int) (hc : Cur w g A n c bs) :
    Calls Try.prog 111 #[.pointer (some ⟨g, 0, none⟩), .int .i64 p] w fun e w' => ∃ (v : Value) (ins : List Int), e = .returned v ∧ w'.ownsRow w.heap.size 3 1 v 60 (ins.map (Value.int .i64)) ∧ ins.length = 60 ∧ (∀ x ∈ ins, 0 ≤ x ∧ x < p) ∧ Cur w' g A n c bs ∧ w.grownBy w' (some g) := by
  have hgl := hc.lt
  have HL : Hid (∀ y, w.heap.size ≤ y → 0 < n → ∀ a, A = some a → a.block ≠ y) := Lib.hid (fun y hy => hc.old hy)
  have HC := Lib.hid hc
  have d1 : ¬ p < 1 := by omega
  clear hc
  go_enter Try.func111, Try.ntmps111
  go_wp2_with fail
  refine (l03List_c _ p hp1 6 (by omega) g A n c bs HC.out).mono ?_
  rintro e w1 ⟨v1, qs, rfl, o1, l1, r1, c1, g1⟩
  have O1 := Lib.hid o1
  have C1 := Lib.hid c1
  have G1 := Lib.hid g1
  have R1 := Lib.hid r1
  have S1 := g1.size
  clear o1 c1 g1 r1
  go_wp2_with (at_builtin; refine wp_appendZ w1 el_int (Try.underlying3) (by simp [Value.cells, Value.oneCell']) rfl (.tmp 8) (.const (.int .i64 54)) rfl w.heap.size _ 6 (by omega) _ O1.out rfl 54 (by omega) rfl (by unfold maxLen; omega) (by omega) S1 ?_; intro v' w2 o2 g2)
  have o2' : w2.ownsRow w.heap.size 3 1 v' 60 ((qs ++ List.replicate 54 0).map (Value.int .i64)) := by
    rw [zeros_list] at o2
    simpa using o2
  have G2 := Lib.hid (gbNN G1.out g2 (fun y hy => .inl (O1.out.lt y hy).1))
  have C2 : Hid (Cur w2 g A n c bs) := by
    refine Lib.hid (C1.out.kept (S := fun y => v1.ownBlock = some y) (Chg.of g2 (fun y hy => hy)) (g2.block g C1.out.lt (fun e => by have := (O1.out.lt g e.symm).1; omega)) (fun hn a ha e => HL.out a.block (O1.out.lt _ e).1 hn a ha rfl))
  have O2 := Lib.hid o2'
  clear o2 g2 o2'
  go_wp2_with fail
  go_ret
  refine ⟨_, qs ++ List.replicate 54 0, rfl, O2.out, by simp [l1], fun x hx => ?_, C2.out, G2.out⟩
  rcases List.mem_append.1 hx with hx | hx
  · exact ⟨(R1.out x hx).1, (R1.out x hx).2 hp0⟩
  · have := List.eq_of_mem_replicate hx
    omega
end Go.Proofs.Ythaadgdeadbhkaa
/-
  EngineOk of the program.
-/
namespace Go.Proofs.Ythaadgdeadbhkaa
open Go.RowKit
set_option linter.unusedVariables false
set_option linter.unusedSimpArgs false
theorem okV_zero {k : KM} {x : AuM} (h : zeroA x = true) : okV k x = true := by unfold okV; rw [h]; rfl
end Go.Proofs.Ythaadgdeadbhkaa
