/-
  append of zeros onto a row of one's own ('append(l, make([]T, m)...)').
-/
import Derived.Lib.AppendZerosOnto
import Derived.Test.YthdfkiaoahpjpaaMgFnCaught27
namespace Go.Proofs.Ythdfkiaoahpjpaa
open Go.RowKit
set_option linter.unusedVariables false
set_option linter.unusedSimpArgs false
section
variable {P : Program}
theorem run_append_own_zeros (w : World) (base : Nat) (t tn ty e : TypeId) (i : TypeInfo) (z : Value) (size bytes : Nat) (kq kn : IntKind) (ht : P.underlying t = some (.slice e)) (htn : P.underlying tn = some (.int kn)) (hi : P.info? e = some i) (hz : i.zero = some z)
    (hsize : i.size = size) (hby : i.bytes = bytes) (hzs : z.cells.size = size) (hsz : 0 < size) (h1 : ∀ u ∈ z.cells.toList, u.oneCell' = true)
    (v : Value) (n : Nat) (hn0 : 0 < n) (xs : List Value) (hown : w.ownsRow base e size v n xs)
    (m : Nat) (hm : 0 < m) (h63 : n + m ≤ maxLen) (hbytes : (n + m) * bytes ≤ 140737488355328) (hbase : base ≤ w.heap.size) :
    ∃ v' w', (Builtin.append_ #[t, tn] ty #[v, .int kq m]).run P w = .ok v' w' ∧ w'.ownsRow base e size v' (n + m) (xs ++ (Builtin.zeroCells z.cells m).toList) ∧ w.grownBy w' v.ownBlock := by
  subst hsize
  subst hby
  have hsmall : n + m ≤ 9223372036854775807 := by simp only [maxLen] at h63; omega
  have hl : (Builtin.zeroCells z.cells m).toList.length = m * i.size := by rw [Array.length_toList, size_zeroCells, hzs]
  have hlen : (xs ++ (Builtin.zeroCells z.cells m).toList).length = (n + m) * i.size := by rw [List.length_append, hown.1, hl, Nat.add_mul]
  have hw : IntKind.i64.wrap (m : Int) = m := by rw [IntKind.wrap_i64]; omega
  have hneg : ¬ ((m : Int) < 0) := by omega
  have hns : ¬ (m * i.size = 0) := Nat.mul_ne_zero (by omega) (by omega)
  have hmb : m * i.bytes ≤ 140737488355328 := Nat.le_trans (Nat.mul_le_mul_right _ (by omega)) hbytes
  have h48i : ¬ (281474976710656 < (m : Int) * (i.bytes : Int)) := by rw [← Int.natCast_mul]; omega
  have hz1 : ∀ u ∈ (Builtin.zeroCells z.cells m).toList, u.oneCell' = true := by
    intro u hu
    refine h1 u ?_
    simp only [Builtin.zeroCells] at hu
    simp at hu
    obtain ⟨k, hk, hu⟩ := hu
    rw [getElem!_pos z.cells _ (Nat.mod_lt _ (by omega))] at hu
    rw [← hu]
    simp
  rcases hown.2 with ⟨rfl, rfl⟩ | ⟨g, cap, cur, rfl, hbg, hg, hnc, hcm, hcs, htake⟩
  · omega
  · by_cases hroom : n + m ≤ cap
    · have hfit : n * i.size + (Builtin.zeroCells z.cells m).toList.length ≤ cur.size := by rw [hl, hcs, ← Nat.add_mul]; exact Nat.mul_le_mul_right _ hroom
      have hst := run_storeCells_at P g (n * i.size) e (Builtin.zeroCells z.cells m).toList 0 cur w hg (by simpa using hfit) hz1
      simp only [Nat.add_zero] at hst
      have hr : (Builtin.append_ #[t, tn] ty #[.slice (some ⟨g, 0, none⟩) n cap, .int kq m]).run P w = .ok (.slice (some ⟨g, 0, none⟩) (n + m) cap) (w.setRow g (cur.toList.take (n * i.size) ++ (Builtin.zeroCells z.cells m).toList ++ cur.toList.drop (n * i.size + (Builtin.zeroCells z.cells m).toList.length)).toArray) := by
        simp [Builtin.append_, run_underlying ht, run_underlying htn, sizeOf, typeInfo, zeroValue, hi, hz, asInt, asIntOf, hw, hneg, hns, h48i, hroom, Addr.add_lit] at hst ⊢
        simp [hst]
      refine ⟨_, _, hr, ⟨hlen, .inr ⟨g, cap, _, rfl, hbg, setRow_heap w g cur _ e _ hg, hroom, hcm, ?_, ?_⟩⟩, ⟨rfl, rfl, rfl, by simp, fun k _ hk => setRow_other w g k _ (fun e => hk (by simp [Value.ownBlock, e]))⟩⟩
      · simp only [List.size_toArray, List.length_append, List.length_take, List.length_drop, Array.length_toList]
        rw [Array.length_toList] at hfit
        omega
      · rw [htake, ← hlen]
        exact List.take_left
    · have holds : ∀ j u, xs[j]? = some u → w.cell? ((⟨g, 0, none⟩ : Addr).add j) = some u := hown.cells (g := g) rfl
      have hold := run_firstCells_some (P := P) w.drew i.size n ⟨g, 0, none⟩ n cap xs hown.1 (fun j u hu => holds j u hu)
      have hr := Lib.run_append_grow_zeros (P := P) w t tn ty e i z kq kn ht htn hi hz (some ⟨g, 0, none⟩) n cap xs hold m hm hsz (by omega) (by omega) (by omega) (growslice_fits (by omega) hbytes)
      have hge := grownCap_ge w (n + m) cap e
      have hcm' : grownCap w (n + m) cap e ≤ maxLen := grownCap_le_maxLen w (n + m) cap e h63
      refine ⟨_, _, hr, ⟨hlen, .inr ⟨w.heap.size, _, _, rfl, hbase, heap_alloc_new w.drew _, hge, hcm', ?_, ?_⟩⟩, ⟨rfl, rfl, rfl, by simp, fun k hk _ => heap_alloc_old w.drew _ hk⟩⟩
      · simp only [Array.size_append, List.size_toArray, size_zeroCells, hzs, hown.1, ← Nat.add_mul]
        congr 1
        omega
      · simp only [Array.toList_append, List.append_assoc]
        rw [← List.append_assoc, ← hlen]
        exact List.take_left
variable {ops : Array Oper} {rest : List Oper} {o : Oper} {a : Act} {Q : Exit → Act → World → Prop}
theorem wp_appendZ (wr : World) {t tn e : TypeId} {z : Value} {size bytes : Nat} (E : El P t e z size bytes) {kn kq : IntKind} (htn : P.underlying tn = some (.int kn)) (h1 : ∀ u ∈ z.cells.toList, u.oneCell' = true) (hgd : o.guard = none) (s x : Operand)
    (ho : o.op = .call { callee := .builtin .append, args := #[s, x], argTypes := #[t, tn] })
    (base : Nat) (v : Value) (n : Nat) (hn0 : 0 < n) (xs : List Value) (hown : wr.ownsRow base e size v n xs) (hs : a.eval s = v) (m : Nat) (hm : 0 < m) (hx : a.eval x = .int kq m)
    (hn : n + m ≤ maxLen) (hb : (n + m) * bytes ≤ 140737488355328) (hbase : base ≤ wr.heap.size)
    (h : ∀ v' w', w'.ownsRow base e size v' (n + m) (xs ++ (Builtin.zeroCells z.cells m).toList) → wr.grownBy w' v.ownBlock → wpList P ops Q rest (a.put o.dst v') w') :
    wpList P ops Q (o :: rest) a wr := by
  obtain ⟨i, hi, hz0, hz1, hz2⟩ := info_parts E.hi
  obtain ⟨v', w', hr, h2, h3⟩ := run_append_own_zeros (P := P) wr base t tn o.type e i z size bytes kq kn E.ht htn hi hz0 hz1 hz2 E.hz E.hs h1 v n hn0 xs hown m hm hn hb hbase
  refine wpList_plain hgd fun _ hK => ?_
  unfold Oper.wp execOp
  simp only [ho, resolve, invoke, builtin, Sem.run_bind, Sem.run_pure, Result.andThen_ok, List.map_toArray, List.map_cons, List.map_nil, hs, hx, hr]
  exact hK _ _ (h v' w' h2 h3)
end
end Go.Proofs.Ythdfkiaoahpjpaa
/-
  Drawn tapes.
-/
namespace Go.Proofs.Ythdfkiaoahpjpaa
open Go.RowKit
set_option linter.unusedVariables false
set_option linter.unusedSimpArgs false
set_option maxHeartbeats 400000 in
theorem l04Tape_c (w : World) (g : Nat) (A : Option Addr) (n c : Nat) (bs : List Int) (hc : Cur w g A n c bs) :
    Calls Try.prog 88 #[.pointer (some ⟨g, 0, none⟩)] w fun e w' => ∃ s a : Nat, e = .returned (.agg #[.int .i64 s, .int .i64 a]) ∧ s < 4294967296 ∧ a < 50 ∧ Cur w' g A n c bs ∧ w.grownBy w' (some g) := by
  have HC := Lib.hid (hc.grow (gbA (gbR w none) (.cells #[.int .i64 0, .int .i64 0] 65)))
  have hgl := hc.lt
  have HL : Hid (0 < n → ∀ a, A = some a → a.block ≠ w.heap.size) := Lib.hid (hc.old (Nat.le_refl _))
  clear hc
  go_enter Try.func88, Try.ntmps88
  go_wp2_with fail
  refine (l02Word_c _ g A n c bs HC.out).mono ?_
  rintro e w1 ⟨x, rfl, hx, hc1, g1⟩
  have H1 := Lib.hid hc1
  have B1 := Lib.hid ((Blk.new w 65 #[.int .i64 0, .int .i64 0]).grown g1 (by simp; omega))
  have G1 := Lib.hid (gbT (gbW (r := some g) (gbA (gbR w none) _)) g1)
  obtain ⟨S, hS⟩ : ∃ S : Nat, x = S := ⟨x.toNat, by omega⟩
  subst hS
  clear hc1 g1
  go_wp2_with fail
  refine (l01Below_c _ 50 (by omega) g A n c bs H1.out).mono ?_
  rintro e w2 ⟨y, rfl, hy0, hy1, hc2, g2⟩
  have H2 := Lib.hid hc2
  have B2 := B1.out.grown g2 (by simp; omega)
  have G2 := Lib.hid (gbT G1.out g2)
  have hy1 := hy1 (by omega)
  obtain ⟨T, hT⟩ : ∃ T : Nat, y = T := ⟨y.toNat, by omega⟩
  subst hT
  have f0 := B2.frozen 0
  have f1 := B2.frozen 1
  have b0 := B2.cell 0
  have b1 := B2.cell 1
  simp at b0 b1
  have RS := Lib.hid (blk_setCells B2 [.int .i64 S, .int .i64 T] rfl)
  have CH := Lib.hid (chg_setCells w.heap.size [.int .i64 S, .int .i64 T] 0 w2)
  have lB := B2.lt
  clear B2 hc2 g2
  go_wp2_with fail
  refine ret_c Try.results88 (by rfl) stTape (cs := #[.int .i64 S, .int .i64 T]) RS.out (by rfl) (by rfl) ?_
  refine ⟨S, T, rfl, by omega, by omega, H2.out.kept CH.out (CH.out.block g H2.out.lt (fun e => by have e : g = w.heap.size := e; omega)) (fun hn a ha e => HL.out hn a ha e), ?_⟩
  refine ⟨CH.out.os.trans G2.out.os, CH.out.tape.trans G2.out.tape, CH.out.output.trans G2.out.output, Nat.le_trans G2.out.size CH.out.size, fun i hi hr => ?_⟩
  exact (CH.out.block i (Nat.lt_of_lt_of_le hi G2.out.size) (fun e => by have e : i = w.heap.size := e; omega)).trans (G2.out.block i hi hr)
end Go.Proofs.Ythdfkiaoahpjpaa
