/-
  l06Tape and l28Zero of the reference.
-/
import Derived.Test.YthaadgdeadbhkaaMgFnExactEngineNew35
import Derived.Test.YthaadgdeadbhkaaMgFnExactEngineNew37
import Derived.Test.YthaadgdeadbhkaaMgFnExactEngineNew8
import Derived.Test.YthaadgdeadbhkaaMgFnExactEngineNew28
namespace Go.Proofs.Ythaadgdeadbhkaa
open Go.RowKit
set_option linter.unusedVariables false
set_option linter.unusedSimpArgs false
theorem specl06Tape_c (s a : Int) (w : World) :
    Calls Try.prog 80 #[.agg #[.int .i64 s, .int .i64 a]] w fun e w' => e = .returned (.bool (tapeB s a && !decide (900000 < a))) ∧ w.grownBy w' none := by
  go_enter Try.func80, Try.ntmps80
  go_wp2_with fail
  refine (specTapeOk_c s a _).mono ?_
  rintro e w1 ⟨rfl, g1⟩
  have B1 := Blk.grow (Blk.new w 31 #[.int .i64 s, .int .i64 a]) g1
  have c0 := B1.cell 0
  have c1 := B1.cell 1
  simp at c0 c1
  have G1 := Lib.hid (gbT (gbA (gbR w none) _) g1)
  clear g1 B1
  cases hb : tapeB s a
  · go_wp2_with fail
    go_ret
    exact ⟨retB (by rw [hb]; rfl), G1.out⟩
  · obtain ⟨d, hd⟩ : ∃ d, decide (a ≤ 900000) = d := ⟨_, rfl⟩
    have HD : Hid ((true && !decide (900000 < a)) = d) := by
      unfold Hid
      rw [← hd, Bool.true_and, ← decide_not]
      exact decide_eq_decide.mpr (by omega)
    go_wp2_with fail
    go_ret
    exact ⟨retB (by rw [hb]; exact HD.out.symm), G1.out⟩
def rows2F (lo n : Nat) (v : Value) (w : World) : Prop := ∃ A c B d, v = .agg #[.slice A n c, .slice B n d] ∧ row1 lo n (List.replicate n 0) (.slice A n c) w ∧ row1 lo n (List.replicate n 0) (.slice B n d) w
theorem rows2F_st {lo n : Nat} : stable (rows2F lo n) := fun v w w' ⟨A, c, B, d, h1, h2, h3⟩ hg => ⟨A, c, B, d, h1, h2.grow hg, h3.grow hg⟩
set_option maxHeartbeats 2000000 in
set_option maxRecDepth 100000 in
theorem specl28Zero_c (n : Nat) (w : World) (hn : n ≤ 1048576) :
    Calls Try.prog 85 #[.int .i64 n] w fun e w' => ∃ v, e = .returned v ∧ zroF n v w' ∧ w.grownBy w' none := by
  obtain ⟨w1, hw1⟩ : ∃ y : World, w.alloc (.cells #[.slice none 0 0, .slice none 0 0] 44) = y := ⟨_, rfl⟩
  have G1 : Hid (w.grownBy w1 none) := by rw [← hw1]; exact gbA (gbR _ _) _
  have z1 : Hid (w1.heap.size = w.heap.size + 1) := by rw [← hw1]; exact Lib.hid (by simp)
  have D0 : Hid (Blk w1 w.heap.size 44 #[.slice none 0 0, .slice none 0 0]) := by rw [← hw1]; exact Blk.new w _ _
  obtain ⟨gR, hgR⟩ : ∃ g, w.heap.size = g := ⟨_, rfl⟩
  have hgl : gR < w1.heap.size := by have := z1.out; omega
  have hgw : w.heap.size ≤ gR := by omega
  go_enter Try.func85, Try.ntmps85
  go_wp2_with fail
  rw [hgR] at D0
  clear hw1 hgR
  refine region_chain [.rd (.int .i64 n), .fl (row1 w1.heap.size n (List.replicate n 0)), .rd (.int .i64 n), .fl (row1 w1.heap.size n (List.replicate n 0)), .fl (rows2F w1.heap.size n), .ch] (fun _ => False)
    [⟨[], fun _ w' => w1.drew.grownBy w' none⟩,
     ⟨[], fun _ w' => (∃ A c B d, row1 w1.heap.size n (List.replicate n 0) (.slice A n c) w' ∧ row1 w1.heap.size n (List.replicate n 0) (.slice B n d) w' ∧ Blk w' gR 44 #[.slice A n c, .slice B n d]) ∧ Chg (fun y => y = gR) w1.drew w'⟩]
    (by kernel_rfl) (by kernel_rfl) (by kernel_rfl) 1 (by kernel_rfl) ?_ (gbR _ _) rfl ?_ ?_
  · have hst : stablesF [⟨[], fun _ w' => w1.drew.grownBy w' none⟩, ⟨[], fun _ w' => (∃ A c B d, row1 w1.heap.size n (List.replicate n 0) (.slice A n c) w' ∧ row1 w1.heap.size n (List.replicate n 0) (.slice B n d) w' ∧ Blk w' gR 44 #[.slice A n c, .slice B n d]) ∧ Chg (fun y => y = gR) w1.drew w'⟩] := by
      refine stF_cons (fun l w1 w2 h hg => gbT h hg) ?_
      exact stF_cons (chain_st fun l w1 w2 ⟨⟨A, c, B, d, h1, h2, h3⟩, h4⟩ hg => ⟨⟨A, c, B, d, h1.grow hg, h2.grow hg, h3.grow hg⟩, h4.trans (Chg.of hg (by simp))⟩) stF_nil
    simp only [flOk, true_and, and_true]
    exact ⟨⟨row1_st, hst⟩, ⟨row1_st, hst⟩, ⟨rows2F_st, hst⟩⟩
  · simp only [hopsK, hopK, Kd.next, and_true]
    refine ⟨?_, ?_, ?_, ?_, ?_, ?_⟩
    · intro f w4 hG hd
      have hg4 := gbT (gbD (gbR w1 none)) (chgF hG)
      (try simp [depsC, dstAt, kAt, bindE, List.filter_cons, bd_data, bd_chain, bd_guard, bd_phase, bd_text, bd_gc] at hd)
      (first | simp [puts, dsts, Act.put, hd] | simp [puts, dsts, Act.put])
      clear hd
      go_wp2_with fail
      exact ⟨rfl, rfl⟩
    · intro f w4 hG hd
      have hg4 := gbT (gbD (gbR w1 none)) (chgF hG)
      have hz4 := hg4.size
      (try simp [depsC, dstAt, kAt, bindE, List.filter_cons, bd_data, bd_chain, bd_guard, bd_phase, bd_text, bd_gc] at hd)
      (first | simp [puts, dsts, Act.put, hd] | simp [puts, dsts, Act.put])
      clear hd
      go_wp2_with (at_make; refine wp_makeN _ el_int rfl _ _ rfl n rfl rfl (by omega) (by unfold maxLen; omega) ?_; intro w6 o6 g6)
      rw [show (Value.int .i64 0).cells = #[.int .i64 0] from rfl, made_one] at o6
      exact ⟨_, rfl, row1.of (L := List.replicate n 0) (by rw [List.map_replicate]; exact own_base o6 hz4), g6⟩
    · intro f w4 hG hd
      have hg4 := gbT (gbD (gbR w1 none)) (chgF hG)
      (try simp [depsC, dstAt, kAt, bindE, List.filter_cons, bd_data, bd_chain, bd_guard, bd_phase, bd_text, bd_gc] at hd)
      (first | simp [puts, dsts, Act.put, hd] | simp [puts, dsts, Act.put])
      clear hd
      go_wp2_with fail
      exact ⟨rfl, rfl⟩
    · intro f w4 hG hd
      have hg4 := gbT (gbD (gbR w1 none)) (chgF hG)
      have hz4 := hg4.size
      (try simp [depsC, dstAt, kAt, bindE, List.filter_cons, bd_data, bd_chain, bd_guard, bd_phase, bd_text, bd_gc] at hd)
      (first | simp [puts, dsts, Act.put, hd] | simp [puts, dsts, Act.put])
      clear hd
      go_wp2_with (at_make; refine wp_makeN _ el_int rfl _ _ rfl n rfl rfl (by omega) (by unfold maxLen; omega) ?_; intro w6 o6 g6)
      rw [show (Value.int .i64 0).cells = #[.int .i64 0] from rfl, made_one] at o6
      exact ⟨_, rfl, row1.of (L := List.replicate n 0) (by rw [List.map_replicate]; exact own_base o6 hz4), g6⟩
    · intro f w4 hG hd
      have hg4 := gbT (gbD (gbR w1 none)) (chgF hG)
      have hz4 := hg4.size
      (try simp [depsC, dstAt, kAt, bindE, List.filter_cons, bd_data, bd_chain, bd_guard, bd_phase, bd_text, bd_gc] at hd)
      obtain ⟨h1, h2⟩ := hd
      obtain ⟨Aa, ca, ea, oa⟩ := h1
      obtain ⟨Ab, cb, eb, ob⟩ := h2
      rw [ea] at oa
      rw [eb] at ob
      simp [puts, dsts, Act.put, ea, eb]
      go_wp2_with fail
      exact ⟨_, rfl, ⟨_, _, _, _, rfl, row1.of oa, row1.of ob⟩, gbR _ _⟩
    · intro f w4 hG hI hd
      have hg4 := gbT (gbD (gbR w1 none)) (chgF hG)
      have hz4 := hg4.size
      have hI : w1.drew.grownBy w4 none := hI
      (try simp [depsC, dstAt, kAt, bindE, List.filter_cons, bd_data, bd_chain, bd_guard, bd_phase, bd_text, bd_gc] at hd)
      obtain ⟨⟨A, c, B, d, e7, h1, h2⟩, -⟩ := hd
      have R4 := D0.out.grow hg4
      have f0 := R4.frozen 0
      have f1 := R4.frozen 1
      have b0 := R4.cell 0
      have b1 := R4.cell 1
      simp at b0 b1
      have RS := Lib.hid (blk_setCells2 R4 (.slice A n c) (.slice B n d))
      have CH := chg_setCells gR [.slice A n c, .slice B n d] 0 w4
      have A1 := Lib.hid (row1_chg h1 CH hgl)
      have A2 := Lib.hid (row1_chg h2 CH hgl)
      have CS := Lib.hid ((Chg.of (S := fun y => y = gR) hI (by simp)).trans CH)
      clear R4 h1 h2 hI CH
      simp [puts, dsts, Act.put, e7]
      go_wp2_with fail
      exact ⟨rfl, .bool false, ⟨A, c, A1.out, B, d, A2.out, RS.out⟩, CS.out⟩
  intro f w5 hI hd
  simp only [puts, dsts, Act.put, List.filterMap_cons, List.filterMap_nil, List.setIfInBounds_toArray, List.set_cons_zero, List.set_cons_succ]
  obtain ⟨⟨A, c, B, d, h1, h2, hB⟩, hC⟩ := hI
  have G9 := Lib.hid (gb_chg (gbT G1.out (gbD (gbR w1 none))) hC hgw)
  obtain ⟨_, _, ea, oa⟩ := h1
  obtain ⟨_, _, eb, ob⟩ := h2
  have Z := Lib.hid (zroF.of oa ob)
  have HB := Lib.hid hB
  clear hd hC ea eb oa ob hB
  go_wp2_with fail
  refine ret_c Try.results85 (by rfl) stAuth (cs := #[.slice A n c, .slice B n d]) HB.out (by rfl) (by rfl) ?_
  exact ⟨_, rfl, Z.out, G9.out⟩
end Go.Proofs.Ythaadgdeadbhkaa
/-
  append onto a new empty row: where the result lies, told apart.
-/
namespace Go.Proofs.Ythaadgdeadbhkaa
open Go.RowKit
set_option linter.unusedVariables false
set_option linter.unusedSimpArgs false
section
variable {P : Program}
theorem run_append_empty2 (w : World) (t ty e : TypeId) (i : TypeInfo) (z : Value) (size bytes : Nat) (ht : P.underlying t = some (.slice e)) (hi : P.info? e = some i) (hz : i.zero = some z)
    (hsize : i.size = size) (hby : i.bytes = bytes) (hzs : z.cells.size = size) (hsz : 0 < size)
    (g : Nat) (hown : w.ownsRow 0 e size (.slice (some ⟨g, 0, none⟩) 0 0) 0 [])
    (a : Addr) (m c : Nat) (news : List Value) (hl : news.length = m * size) (hnews : ∀ j u, news[j]? = some u → w.cell? (a.add j) = some u) (h1 : ∀ u ∈ news, u.oneCell' = true)
    (h63 : m ≤ maxLen) (hbytes : m * bytes ≤ 140737488355328) :
    ∃ v' w', (Builtin.append_ #[t, t] ty #[.slice (some ⟨g, 0, none⟩) 0 0, .slice (some a) m c]).run P w = .ok v' w' ∧ w'.ownsRow 0 e size v' m news ∧ w.grownBy w' none ∧ (∀ g', v'.ownBlock = some g' → g' = g ∨ (w.heap.size ≤ g' ∧ 0 < m)) := by
  subst hsize
  subst hby
  rcases Nat.eq_zero_or_pos m with h0 | h0
  · subst h0
    obtain rfl : news = [] := List.eq_nil_of_length_eq_zero (by simpa using hl)
    have hr := run_append_room_cells (P := P) (w := w) t ty e i ht hi g 0 0 0 a 0 c [] (by simp) (by simp) (by simp) (by simp) (by simp) (by simp)
    refine ⟨_, _, hr, ?_, ?_, ?_⟩
    · exact hown
    · exact gbR _ _
    · intro g' hg'
      simp [Value.ownBlock] at hg'
      exact .inl hg'.symm
  · obtain ⟨v', w', hr, ho, hgr, _⟩ := run_append_own w 0 t ty e i z i.size i.bytes ht hi hz rfl rfl hzs hsz _ 0 [] hown a m c news hl hnews h1 (by omega) (by simpa using hbytes) (Nat.zero_le _)
    have holds : ∀ j u, ([] : List Value)[j]? = some u → w.cell? ((⟨g, 0, none⟩ : Addr).add j) = some u := fun j u h => by simp at h
    have hr2 := run_append_grow (P := P) w t ty e i z ht hi hz ⟨g, 0, none⟩ 0 0 [] (by simp) holds a m c news hl hnews (by omega) (by simp only [maxLen] at h63; omega) (growslice_fits (by omega) (by simpa using hbytes))
    rw [hr] at hr2
    injection hr2 with e1 e2
    subst e2
    refine ⟨_, _, hr, by simpa using ho, gbA (gbD (gbR _ _)) _, fun g' hg' => .inr ⟨?_, h0⟩⟩
    subst e1
    simp [Value.ownBlock] at hg'
    omega
variable {ops : Array Oper} {rest : List Oper} {o : Oper} {a : Act} {Q : Exit → Act → World → Prop}
theorem wp_appendF (wr : World) {t e : TypeId} {z : Value} {size bytes : Nat} (E : El P t e z size bytes) (hgd : o.guard = none) (s x : Operand)
    (ho : o.op = .call { callee := .builtin .append, args := #[s, x], argTypes := #[t, t] })
    (g : Nat) (hown : wr.ownsRow 0 e size (.slice (some ⟨g, 0, none⟩) 0 0) 0 []) (hs : a.eval s = .slice (some ⟨g, 0, none⟩) 0 0) (A : Option Addr) (m c : Nat) (ys : List Value) (hx : a.eval x = .slice A m c) (hr : Rd wr size A m ys) (h1 : ∀ u ∈ ys, u.oneCell' = true)
    (hn : m ≤ maxLen) (hb : m * bytes ≤ 140737488355328)
    (h : ∀ v' w', w'.ownsRow 0 e size v' m ys → wr.grownBy w' none → (∀ g', v'.ownBlock = some g' → g' = g ∨ (wr.heap.size ≤ g' ∧ 0 < m)) → wpList P ops Q rest (a.put o.dst v') w') :
    wpList P ops Q (o :: rest) a wr := by
  obtain ⟨i, hi, hz0, hz1, hz2⟩ := info_parts E.hi
  have key : ∀ ad : Addr, A = some ad → (∀ j u, ys[j]? = some u → wr.cell? (ad.add j) = some u) → wpList P ops Q (o :: rest) a wr := fun ad hA hc => by
    obtain ⟨v', w', hr, h2, h3, h4⟩ := run_append_empty2 (P := P) wr t o.type e i z size bytes E.ht hi hz0 hz1 hz2 E.hz E.hs g hown ad m c ys hr.1 hc h1 hn hb
    refine wpList_plain hgd fun _ hK => ?_
    unfold Oper.wp execOp
    simp only [ho, resolve, invoke, builtin, Sem.run_bind, Sem.run_pure, Result.andThen_ok, List.map_toArray, List.map_cons, List.map_nil, hs, hx, hA, hr]
    exact hK _ _ (h v' w' h2 h3 h4)
  rcases Nat.eq_zero_or_pos m with h0 | h0
  · subst h0
    have hys : ys = [] := List.eq_nil_of_length_eq_zero (by simpa using hr.1)
    subst hys
    cases A with
    | some ad => exact key ad rfl fun j u hu => by simp at hu
    | none =>
      refine wpList_plain hgd fun _ hK => ?_
      have hrun := run_append_of_nil (P := P) wr 0 t o.type e i size E.ht hi _ 0 [] hown c
      unfold Oper.wp execOp
      simp only [ho, resolve, invoke, builtin, Sem.run_bind, Sem.run_pure, Result.andThen_ok, List.map_toArray, List.map_cons, List.map_nil, hs, hx, hrun]
      exact hK _ _ (h _ wr hown (gbR _ _) fun g' hg => .inl (by simp [Value.ownBlock] at hg; exact hg.symm))
  · obtain ⟨b, off, hA, hb', hc⟩ := hr.2 h0
    refine key ⟨b, off, none⟩ hA fun j u hu => ?_
    have hadd : (⟨b, off, none⟩ : Addr).add j = ⟨b, off + j, none⟩ := by unfold Addr.add; split <;> simp_all
    have hj : j < m * size := by rw [← hr.1]; exact (List.getElem?_eq_some_iff.1 hu).1
    rw [hadd, hc j hj, hu]
end
end Go.Proofs.Ythaadgdeadbhkaa
/-
  l28Auth of the reference: a copy.
-/
namespace Go.Proofs.Ythaadgdeadbhkaa
open Go.RowKit
set_option linter.unusedVariables false
set_option linter.unusedSimpArgs false
def emptyS (lo : Nat) (v : Value) (w : World) : Prop := ∃ g, v = .slice (some ⟨g, 0, none⟩) 0 0 ∧ lo ≤ g ∧ Blk w g 3 #[] ∧ w.ownsRow 0 3 1 (.slice (some ⟨g, 0, none⟩) 0 0) 0 []
theorem emptyS_st {lo : Nat} : stable (emptyS lo) := fun v w w' ⟨g, h1, h2, h3, h4⟩ hg => ⟨g, h1, h2, h3.grow hg, own_grow h4 hg⟩
theorem row2.grow {lo n m : Nat} {L M : List Int} {v u : Value} {w w' : World} (h : row2 lo n m L M v u w) (hg : w.grownBy w' none) : row2 lo n m L M v u w' := ⟨h.1.grow hg, h.2.1.grow hg, h.2.2⟩
section
variable {lo gK gR n k : Nat} {s m : Value} {L M : List Int}
end
end Go.Proofs.Ythaadgdeadbhkaa
