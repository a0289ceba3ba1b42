/-
  append onto a new empty row: where the result lies, told apart.
-/
import Derived.Test.YthaadgdeadbhkaaMgFnCosts6
import Derived.Test.YthaadgdeadbhkaaMgFnCosts28
import Derived.Test.YthaadgdeadbhkaaMgFnCosts20
namespace Go.Proofs.Ythaadgdeadbhkaa
open Go.RowKit
set_option linter.unusedVariables false
set_option linter.unusedSimpArgs false
section
variable {P : Program}
theorem run_append_empty2 (w : World) (t ty e : TypeId) (i : TypeInfo) (z : Value) (size bytes : Nat) (ht : P.underlying t = some (.slice e)) (hi : P.info? e = some i) (hz : i.zero = some z)
    (hsize : i.size = size) (hby : i.bytes = bytes) (hzs : z.cells.size = size) (hsz : 0 < size)
    (g : Nat) (hown : w.ownsRow 0 e size (.slice (some ⟨g, 0, none⟩) 0 0) 0 [])
    (a : Addr) (m c : Nat) (news : List Value) (hl : news.length = m * size) (hnews : ∀ j u, news[j]? = some u → w.cell? (a.add j) = some u) (h1 : ∀ u ∈ news, u.oneCell' = true)
    (h63 : m ≤ maxLen) (hbytes : m * bytes ≤ 140737488355328) :
    ∃ v' w', (Builtin.append_ #[t, t] ty #[.slice (some ⟨g, 0, none⟩) 0 0, .slice (some a) m c]).run P w = .ok v' w' ∧ w'.ownsRow 0 e size v' m news ∧ w.grownBy w' none ∧ (∀ g', v'.ownBlock = some g' → g' = g ∨ (w.heap.size ≤ g' ∧ 0 < m)) := by
  subst hsize
  subst hby
  rcases Nat.eq_zero_or_pos m with h0 | h0
  · subst h0
    obtain rfl : news = [] := List.eq_nil_of_length_eq_zero (by simpa using hl)
    have hr := run_append_room_cells (P := P) (w := w) t ty e i ht hi g 0 0 0 a 0 c [] (by simp) (by simp) (by simp) (by simp) (by simp) (by simp)
    refine ⟨_, _, hr, ?_, ?_, ?_⟩
    · exact hown
    · exact gbR _ _
    · intro g' hg'
      simp [Value.ownBlock] at hg'
      exact .inl hg'.symm
  · obtain ⟨v', w', hr, ho, hgr, _⟩ := run_append_own w 0 t ty e i z i.size i.bytes ht hi hz rfl rfl hzs hsz _ 0 [] hown a m c news hl hnews h1 (by omega) (by simpa using hbytes) (Nat.zero_le _)
    have holds : ∀ j u, ([] : List Value)[j]? = some u → w.cell? ((⟨g, 0, none⟩ : Addr).add j) = some u := fun j u h => by simp at h
    have hr2 := run_append_grow (P := P) w t ty e i z ht hi hz ⟨g, 0, none⟩ 0 0 [] (by simp) holds a m c news hl hnews (by omega) (by simp only [maxLen] at h63; omega) (growslice_fits (by omega) (by simpa using hbytes))
    rw [hr] at hr2
    injection hr2 with e1 e2
    subst e2
    refine ⟨_, _, hr, by simpa using ho, gbA (gbD (gbR _ _)) _, fun g' hg' => .inr ⟨?_, h0⟩⟩
    subst e1
    simp [Value.ownBlock] at hg'
    omega
variable {ops : Array Oper} {rest : List Oper} {o : Oper} {a : Act} {Q : Exit → Act → World → Prop}
theorem wp_appendF (wr : World) {t e : TypeId} {z : Value} {size bytes : Nat} (E : El P t e z size bytes) (hgd : o.guard = none) (s x : Operand)
    (ho : o.op = .call { callee := .builtin .append, args := #[s, x], argTypes := #[t, t] })
    (g : Nat) (hown : wr.ownsRow 0 e size (.slice (some ⟨g, 0, none⟩) 0 0) 0 []) (hs : a.eval s = .slice (some ⟨g, 0, none⟩) 0 0) (A : Option Addr) (m c : Nat) (ys : List Value) (hx : a.eval x = .slice A m c) (hr : Rd wr size A m ys) (h1 : ∀ u ∈ ys, u.oneCell' = true)
    (hn : m ≤ maxLen) (hb : m * bytes ≤ 140737488355328)
    (h : ∀ v' w', w'.ownsRow 0 e size v' m ys → wr.grownBy w' none → (∀ g', v'.ownBlock = some g' → g' = g ∨ (wr.heap.size ≤ g' ∧ 0 < m)) → wpList P ops Q rest (a.put o.dst v') w') :
    wpList P ops Q (o :: rest) a wr := by
  obtain ⟨i, hi, hz0, hz1, hz2⟩ := info_parts E.hi
  have key : ∀ ad : Addr, A = some ad → (∀ j u, ys[j]? = some u → wr.cell? (ad.add j) = some u) → wpList P ops Q (o :: rest) a wr := fun ad hA hc => by
    obtain ⟨v', w', hr, h2, h3, h4⟩ := run_append_empty2 (P := P) wr t o.type e i z size bytes E.ht hi hz0 hz1 hz2 E.hz E.hs g hown ad m c ys hr.1 hc h1 hn hb
    refine wpList_plain hgd fun _ hK => ?_
    unfold Oper.wp execOp
    simp only [ho, resolve, invoke, builtin, Sem.run_bind, Sem.run_pure, Result.andThen_ok, List.map_toArray, List.map_cons, List.map_nil, hs, hx, hA, hr]
    exact hK _ _ (h v' w' h2 h3 h4)
  rcases Nat.eq_zero_or_pos m with h0 | h0
  · subst h0
    have hys : ys = [] := List.eq_nil_of_length_eq_zero (by simpa using hr.1)
    subst hys
    cases A with
    | some ad => exact key ad rfl fun j u hu => by simp at hu
    | none =>
      refine wpList_plain hgd fun _ hK => ?_
      have hrun := run_append_of_nil (P := P) wr 0 t o.type e i size E.ht hi _ 0 [] hown c
      unfold Oper.wp execOp
      simp only [ho, resolve, invoke, builtin, Sem.run_bind, Sem.run_pure, Result.andThen_ok, List.map_toArray, List.map_cons, List.map_nil, hs, hx, hrun]
      exact hK _ _ (h _ wr hown (gbR _ _) fun g' hg => .inl (by simp [Value.ownBlock] at hg; exact hg.symm))
  · obtain ⟨b, off, hA, hb', hc⟩ := hr.2 h0
    refine key ⟨b, off, none⟩ hA fun j u hu => ?_
    have hadd : (⟨b, off, none⟩ : Addr).add j = ⟨b, off + j, none⟩ := by unfold Addr.add; split <;> simp_all
    have hj : j < m * size := by rw [← hr.1]; exact (List.getElem?_eq_some_iff.1 hu).1
    rw [hadd, hc j hj, hu]
end
end Go.Proofs.Ythaadgdeadbhkaa
/-
  l28Auth of the reference: a copy.
-/
namespace Go.Proofs.Ythaadgdeadbhkaa
open Go.RowKit
set_option linter.unusedVariables false
set_option linter.unusedSimpArgs false
def autV (lo : Nat) (m : AuM) (v : Value) (w : World) : Prop := ∃ A n c B k d, v = .agg #[.slice A n c, .slice B k d] ∧ autF lo m (.agg #[.slice A n c, .slice B k d]) w
theorem autV_st {lo : Nat} {m : AuM} : stable (autV lo m) := fun v w w' ⟨A, n, c, B, k, d, h1, h2⟩ hg => ⟨A, n, c, B, k, d, h1, h2.grow hg⟩
def emptyS (lo : Nat) (v : Value) (w : World) : Prop := ∃ g, v = .slice (some ⟨g, 0, none⟩) 0 0 ∧ lo ≤ g ∧ Blk w g 3 #[] ∧ w.ownsRow 0 3 1 (.slice (some ⟨g, 0, none⟩) 0 0) 0 []
theorem emptyS_st {lo : Nat} : stable (emptyS lo) := fun v w w' ⟨g, h1, h2, h3, h4⟩ hg => ⟨g, h1, h2, h3.grow hg, own_grow h4 hg⟩
theorem emptyS_chg {lo : Nat} {v : Value} {w w' : World} {S : Nat → Prop} (h : emptyS lo v w) (k : Chg S w w') (hS : ∀ y, S y → y < lo) : emptyS lo v w' := by
  obtain ⟨g, h1, h2, h3, h4⟩ := h
  exact ⟨g, h1, h2, h3.chg k (fun hs => by have := hS g hs; omega), Chg.own h4 k (fun y hy hs => by have := hS y hs; simp [Value.ownBlock] at hy; omega)⟩
def rowE (lo n : Nat) (L : List Int) (v u : Value) (w : World) : Prop := ∃ A c g, v = .slice A n c ∧ w.ownsRow lo 3 1 (.slice A n c) n (L.map (Value.int .i64)) ∧ u = .slice (some ⟨g, 0, none⟩) 0 0 ∧ ∀ b, (Value.slice A n c).ownBlock = some b → b = g ∨ 0 < n
theorem row2.grow {lo n m : Nat} {L M : List Int} {v u : Value} {w w' : World} (h : row2 lo n m L M v u w) (hg : w.grownBy w' none) : row2 lo n m L M v u w' := ⟨h.1.grow hg, h.2.1.grow hg, h.2.2⟩
theorem row1_chg2 {lo n : Nat} {L : List Int} {v : Value} {w w' : World} {S : Nat → Prop} (h : row1 lo n L v w) (k : Chg S w w') (hS : ∀ y, S y → y < lo) : row1 lo n L v w' := by
  obtain ⟨A, c, h1, h2⟩ := h
  exact ⟨A, c, h1, Chg.own h2 k (fun x hx hs => by have := (h2.lt x hx).1; have := hS x hs; omega)⟩
def TCA (lo gK gR n k : Nat) (s m : Value) (L M : List Int) : List Fact :=
  [onT 3 (emptyS lo), onT 4 (isV (.pointer (some ⟨gK, 0, none⟩))), onT 5 (isV s), ⟨[6, 3], fun l w => rowE lo n L (l.getD 0 undef) (l.getD 1 undef) w⟩, onT 7 (emptyS lo), onT 8 (isV (.pointer (some ⟨gK, 1, none⟩))), onT 9 (isV m),
   ⟨[10, 6], fun l w => row2 lo n k L M (l.getD 1 undef) (l.getD 0 undef) w⟩, onT 11 (autV lo ⟨L, M⟩), ⟨[11], fun l w => blkP gR (l.getD 0 undef) w⟩]
section
variable {lo gK gR n k : Nat} {s m : Value} {L M : List Int}
theorem TCA_st : stablesF (TCA lo gK gR n k s m L M) := by
  unfold TCA
  intro F hF
  simp only [List.mem_cons, List.not_mem_nil, or_false] at hF
  rcases hF with rfl | rfl | rfl | rfl | rfl | rfl | rfl | rfl | rfl | rfl
  all_goals first | exact stableF_on (isV_st _) | exact stableF_on emptyS_st | exact stableF_on autV_st | skip
  · rintro l w w' ⟨A, c, g, h1, h2, h3, h4⟩ hg
    exact ⟨A, c, g, h1, own_grow h2 hg, h3, h4⟩
  · exact fun l w w' h hg => row2.grow h hg
  · rintro l w w' ⟨A, B, n, c, k, d, h1, h2⟩ hg
    exact ⟨A, B, n, c, k, d, h1, h2.grow hg⟩
theorem TCA_keep {f : Tmp → Value} {w w' : World} (h : Chg (fun y => y = gR) w w') (hl : gR < lo) : keeps f w w' 9 (TCA lo gK gR n k s m L M) 0 := by
  have hS : ∀ y, y = gR → y < lo := fun y hy => by omega
  simp only [TCA, keeps, and_true]
  refine ⟨fun _ q => emptyS_chg q h hS, fun _ q => q, fun _ q => q, fun _ ⟨A, c, g, h1, h2, h3, h4⟩ => ⟨A, c, g, h1, Chg.own h2 h (fun x hx hs => by have := (h2.lt x hx).1; have hs : x = gR := hs; omega), h3, h4⟩, fun _ q => emptyS_chg q h hS, fun _ q => q, fun _ q => q, fun _ q => ⟨row1_chg2 q.1 h hS, row1_chg2 q.2.1 h hS, q.2.2⟩, fun _ ⟨A, n, c, B, k, d, h1, h2⟩ => ⟨A, n, c, B, k, d, h1, autF.chg h2 h hl⟩, fun e => absurd rfl e⟩
end
set_option maxHeartbeats 2000000 in
set_option maxRecDepth 100000 in
theorem specl28Auth_c (a : AuM) (av : Value) (w0 : World) (ha : AggR w0 (cauth a) av) (wa : awf a) :
    Calls Try.prog 141 #[av] w0 fun e w' => ∃ v, e = .returned v ∧ autF w0.heap.size a v w' ∧ w0.grownBy w' none := by
  obtain ⟨Ba, da, Ca, fa, rfl, _, _, _, _, hSa, hMa⟩ := cauth_sl ha
  obtain ⟨wq, hw1⟩ : ∃ x : World, ((w0.alloc (.cells #[.slice Ba a.sh.length da, .slice Ca a.mc.length fa] 44)).alloc (.cells #[.slice none 0 0, .slice none 0 0] 44)) = x := ⟨_, rfl⟩
  have GW : Hid (w0.grownBy wq none) := by rw [← hw1]; exact gbA (gbA (gbR _ _) _) _
  have z1 : Hid (wq.heap.size = w0.heap.size + 2) := by rw [← hw1]; exact Lib.hid (by simp)
  have D1 : Hid (Blk wq w0.heap.size 44 #[.slice Ba a.sh.length da, .slice Ca a.mc.length fa]) := by rw [← hw1]; exact (Blk.new w0 _ _).grow (gbA (gbR _ _) _)
  have D3 : Hid (Blk wq (w0.heap.size + 1) 44 #[.slice none 0 0, .slice none 0 0]) := by rw [← hw1]; exact Blk.new' _ _ _ _ (by simp)
  have IS := Lib.hid (hSa.grow GW.out)
  have IM := Lib.hid (hMa.grow GW.out)
  have LS : Hid (0 < a.sh.length → ∀ b, Ba = some b → b.block < w0.heap.size) := Lib.hid (fun hp b hb => by
    obtain ⟨b', o', e', hb', _⟩ := hSa.at_ hp
    rw [hb] at e'; injection e' with e'; rw [e']; exact hb')
  have LM : Hid (0 < a.mc.length → ∀ b, Ca = some b → b.block < w0.heap.size) := Lib.hid (fun hp b hb => by
    obtain ⟨b', o', e', hb', _⟩ := hMa.at_ hp
    rw [hb] at e'; injection e' with e'; rw [e']; exact hb')
  have WA := Lib.hid wa
  clear ha hSa hMa wa
  go_enter Try.func141, Try.ntmps141
  go_wp2_with fail
  clear hw1
  have hlz := z1.out
  have HX : Hid (∀ w4, Chg (fun b => ∃ s, (s, b) ∈ [(9, w0.heap.size + 1)]) wq.drew w4 → Chg (fun b => b = w0.heap.size + 1) wq w4) := Lib.hid (fun w4 hG => chgDr (hG.mono (fun b hb => by
    obtain ⟨s, hs⟩ := hb
    simp only [List.mem_cons, List.not_mem_nil, or_false, Prod.mk.injEq] at hs
    exact hs.2)))
  refine region_reg7 (TCA (w0.heap.size + 2) w0.heap.size (w0.heap.size + 1) a.sh.length a.mc.length (.slice Ba a.sh.length da) (.slice Ca a.mc.length fa) a.sh a.mc) [⟨0, 3, 4, 7, apart⟩] [(9, w0.heap.size + 1)] (by kernel_rfl) (by kernel_rfl) (by kernel_rfl) (by kernel_rfl) TCA_st ?_ ?_
  · simp only [hops7, and_true]
    refine ⟨?_, ?_, ?_, ?_, ?_, ?_, ?_, ?_, ?_, ?_⟩
    · skip
      intro f w4 hG pre old hd _
      have hz4 := hG.size
      simp at hz4
      clear hd hG pre old
      simp [puts, dsts, Act.put]
      go_wp2_with fail
      refine ⟨_, rfl, ⟨w4.heap.size, rfl, by omega, Blk.new _ _ _, World.ownsRow_made w4 #[] 0 (Nat.zero_le _) (by simp) rfl⟩, Or.inl (gbA (gbR _ _) _), fun p hp => ?_⟩
      simp only [List.mem_cons, List.not_mem_nil, or_false] at hp
      subst hp
      refine ⟨fun _ ⟨g, e7, _, hB, _⟩ => ?_, fun e => absurd e (by decide)⟩
      have e7 : f 7 = _ := e7
      have hB : Blk w4 g _ _ := hB
      show apart _ (f 7)
      rw [e7]
      intro b hb hb'
      have := hB.lt
      simp [Value.ownBlock] at hb hb'
      omega
    rotate_left 2
    · intro f w4 hG pre old hd _
      have hGx := HX.out w4 hG
      have hz4 := hGx.size
      have I4 := Lib.hid (Chg.rdk (w := wq) (w' := w4) IS.out hGx (fun hp b hb e => by have := LS.out hp b hb; omega))
      clear hG pre old hGx
      simp [depsF, bindE, List.filter_cons, bd_data, bd_chain, bd_guard, bd_phase, bd_text, bd_gc, TCA, fAt, onT_at, isV] at hd
      obtain ⟨⟨g3, e3, hg3, B3, O3⟩, e5⟩ := hd
      simp [puts, dsts, Act.put, e3, e5]
      go_wp2_with (at_builtin; refine wp_appendF w4 el_int rfl (.tmp 3) (.tmp 5) rfl g3 O3 rfl Ba a.sh.length da _ rfl I4.out (by simp [Value.oneCell']) (by have := WA.out.1; unfold maxLen; omega) (by have := WA.out.1; omega) ?_; intro v6 w6 o6 g6 n6)
      obtain ⟨A6, c6, rfl, _, _⟩ := own_form o6
      refine ⟨_, rfl, ⟨A6, c6, g3, rfl, own_rebase o6 (fun g hg => ?_), e3, fun b hb => (n6 b hb).imp id (fun h => h.2)⟩, Or.inl g6, fun p hp => ?_⟩
      · rcases n6 g hg with h6 | h6
        · omega
        · have := h6.1; omega
      · simp only [List.mem_cons, List.not_mem_nil, or_false] at hp
        subst hp
        exact ⟨fun e => absurd e (by decide), fun e => absurd e (by decide)⟩
    · skip
      intro f w4 hG pre old hd _
      have hz4 := hG.size
      simp at hz4
      clear hd hG pre old
      simp [puts, dsts, Act.put]
      go_wp2_with fail
      refine ⟨_, rfl, ⟨w4.heap.size, rfl, by omega, Blk.new _ _ _, World.ownsRow_made w4 #[] 0 (Nat.zero_le _) (by simp) rfl⟩, Or.inl (gbA (gbR _ _) _), fun p hp => ?_⟩
      simp only [List.mem_cons, List.not_mem_nil, or_false] at hp
      subst hp
      refine ⟨fun e => absurd e (by decide), fun _ ⟨g, e7, _, hB, _⟩ => ?_⟩
      have e7 : f 3 = _ := e7
      have hB : Blk w4 g _ _ := hB
      show apart (f 3) _
      rw [e7]
      intro b hb hb'
      have := hB.lt
      simp [Value.ownBlock] at hb hb'
      omega
    rotate_left 2
    · intro f w4 hG pre old hd hpr
      have hGx := HX.out w4 hG
      have hz4 := hGx.size
      have I4 := Lib.hid (Chg.rdk (w := wq) (w' := w4) IM.out hGx (fun hp b hb e => by have := LM.out hp b hb; omega))
      have hap : apart (f 3) (f 7) := hpr _ (List.mem_cons_self ..) (by kernel_rfl) (by kernel_rfl) (by decide) (by decide)
      clear hG pre old hGx hpr
      simp [depsF, bindE, List.filter_cons, bd_data, bd_chain, bd_guard, bd_phase, bd_text, bd_gc, TCA, fAt, onT_at, isV] at hd
      obtain ⟨⟨g7, e7, hg7, B7, O7⟩, e9, h36⟩ := hd
      obtain ⟨A6, c6, g3, e6, o6, e3, n6⟩ : rowE (w0.heap.size + 2) a.sh.length a.sh (f 6) (f 3) w4 := h36
      rw [e3, e7] at hap
      have hap37 : g3 ≠ g7 := fun e => hap g3 rfl (by rw [e]; rfl)
      simp [puts, dsts, Act.put, e7, e9]
      go_wp2_with (at_builtin; refine wp_appendF w4 el_int rfl (.tmp 7) (.tmp 9) rfl g7 O7 rfl Ca a.mc.length fa _ rfl I4.out (by simp [Value.oneCell']) (by have := WA.out.2; unfold maxLen; omega) (by have := WA.out.2; omega) ?_; intro v10 w10 o10 g10 n10)
      obtain ⟨A10, c10, rfl, _, _⟩ := own_form o10
      have hR2 : row2 (w0.heap.size + 2) a.sh.length a.mc.length a.sh a.mc (f 6) (.slice A10 a.mc.length c10) w10 := by
        rw [e6]
        refine ⟨row1.of (own_grow o6 g10), row1.of (own_rebase o10 (fun g hg => ?_)), fun g hg hg' => ?_⟩
        · rcases n10 g hg with h6 | h6
          · omega
          · have := h6.1; omega
        · have hlt := (o6.lt g hg).2
          rcases n10 g hg' with h6 | h6
          · rcases n6 g hg with h7 | h7
            · omega
            · subst h6
              rcases o6.2 with ⟨e1, _⟩ | ⟨g1, cap, cur, hv1, _⟩
              · rw [e1] at hg; cases hg
              · rw [hv1] at hg
                have : g1 = g := by simpa [Value.ownBlock] using hg
                subst this
                injection hv1 with q1 q2 q3
                obtain ⟨b', o', e', _, hc'⟩ := Ints.at_ (show Ints w4 _ a.sh.length a.sh from Rd.ofOwn o6) h7
                rw [q1] at e'
                injection e' with e'
                injection e' with e1 e2 _
                subst e1; subst e2
                have h8 := hc' 0 h7
                have h9 := B7.cell 0
                rw [show ((0 : Nat) + 0) = 0 from rfl] at h8
                rw [h8] at h9
                simp at h9
          · have := h6.1; omega
      have HR2 := Lib.hid hR2
      have G10 := Lib.hid g10
      clear o10 g10 n10 hR2
      exact ⟨_, rfl, HR2.out, Or.inl G10.out, fun p hp => by
        simp only [List.mem_cons, List.not_mem_nil, or_false] at hp
        subst hp
        exact ⟨fun e => absurd e (by decide), fun e => absurd e (by decide)⟩⟩
    · refine hop7_of rfl ?_
      intro f w4 hG pre old hd
      simp [depsF, bindE, List.filter_cons, bd_data, bd_chain, bd_guard, bd_phase, bd_text, bd_gc, TCA, fAt, onT_at, isV] at hd
      have h10 : row2 (w0.heap.size + 2) a.sh.length a.mc.length a.sh a.mc (f 6) (f 10) w4 := by first | exact hd.2 | exact hd.1 | exact hd.2.1
      have hau := row2.agg h10
      obtain ⟨⟨A6, c6, e6, _⟩, ⟨A10, c10, e10, _⟩, _⟩ := h10
      rw [e6, e10] at hau
      have HAU := Lib.hid hau
      clear hau hd hG pre old
      simp [puts, dsts, Act.put, e6, e10]
      go_wp2_with fail
      exact ⟨_, rfl, ⟨_, _, _, _, _, _, rfl, HAU.out⟩, Or.inl (gbR _ _)⟩
    · refine hop7_of rfl ?_
      intro f w4 hG pre old hd
      simp [depsF, bindE, List.filter_cons, bd_data, bd_chain, bd_guard, bd_phase, bd_text, bd_gc, TCA, fAt, onT_at, isV] at hd
      have h11 : autV (w0.heap.size + 2) ⟨a.sh, a.mc⟩ (f 11) w4 := by first | exact hd | exact hd.1
      obtain ⟨A8, n8, c8, A9, n9, c9, e11, h11⟩ := h11
      have R4 : Blk w4 (w0.heap.size + 1) 44 #[.slice none 0 0, .slice none 0 0] := by
        have h9 := D3.out
        unfold Blk at h9 ⊢
        rw [← h9]
        exact pre _ (by have := D3.out.lt; simpa using this) (fun s hs => by
          simp only [List.mem_cons, List.not_mem_nil, or_false, Prod.mk.injEq] at hs
          rw [hs.1]; kernel_rfl)
      have f0 := R4.frozen 0
      have f1' := R4.frozen 1
      have b0 := R4.cell 0
      have b1 := R4.cell 1
      simp at b0 b1
      have CH := chg_setCells (w0.heap.size + 1) [.slice A8 n8 c8, .slice A9 n9 c9] 0 w4
      have RS := blk_setCells R4 [.slice A8 n8 c8, .slice A9 n9 c9] rfl
      have hK := TCA_keep (gK := w0.heap.size) (n := a.sh.length) (k := a.mc.length) (s := .slice Ba a.sh.length da) (m := .slice Ca a.mc.length fa) (L := a.sh) (M := a.mc) (f := f) CH (show w0.heap.size + 1 < w0.heap.size + 2 by omega)
      have CM := CH.mono (T := fun b => wq.heap.size ≤ b ∨ (9, b) ∈ [(9, w0.heap.size + 1)]) (fun z hz => by have hz : z = _ := hz; subst hz; exact .inr (by simp))
      simp only [setCells, Nat.zero_add, Nat.reduceAdd] at hK CM
      have HK9 := Lib.hid hK
      have HCM := Lib.hid CM
      have HRS := Lib.hid RS
      clear CH hK CM RS R4 hd hG pre old h11
      simp [puts, dsts, Act.put, e11]
      go_wp2_with fail
      exact ⟨rfl, ⟨.bool false, A8, A9, n8, c8, n9, c9, e11, HRS.out⟩, Or.inr ⟨by simpa using HCM.out, HK9.out⟩⟩
    all_goals
      refine hop7_of rfl ?_
      intro f w4 hG pre old hd
      have hGx := HX.out w4 hG
      have k0 := (D1.out.chg hGx (by omega)).cell 0
      have k1 := (D1.out.chg hGx (by omega)).cell 1
      simp at k0 k1
      clear hGx hG pre old
      simp [depsF, bindE, List.filter_cons, bd_data, bd_chain, bd_guard, bd_phase, bd_text, bd_gc, TCA, fAt, onT_at, isV] at hd
      first | simp [puts, dsts, Act.put, hd] | simp [puts, dsts, Act.put]
      try clear hd
      go_wp2_with fail
      exact ⟨_, rfl, by simp [TCA, fAt, onT_at, upd_some, isV], Or.inl (gbR _ _)⟩
  intro f w6 hG hd _
  have h8 := knowsF_get hd (i := 8) rfl
  have h9 := knowsF_get hd (i := 9) rfl
  have h8 : autV (w0.heap.size + 2) ⟨a.sh, a.mc⟩ (f 11) w6 := h8
  have h9 : blkP (w0.heap.size + 1) (f 11) w6 := h9
  obtain ⟨A8, n8, c8, A9, n9, c9, e11, h8⟩ := h8
  rw [e11] at h9
  obtain ⟨B8, B9, q8, d8, q9, d9, e9, B29⟩ := h9
  injection e9 with e9
  injection e9 with e9
  injection e9 with e90 e9
  injection e9 with e91 _
  rw [← e90, ← e91] at B29
  clear e90 e91
  have AU := Lib.hid h8
  have GZ := Lib.hid (gbChg GW.out (HX.out w6 hG) (fun z hz => by omega))
  have BA := Lib.hid B29
  simp only [puts, dsts, Act.put, List.filterMap_cons, List.filterMap_nil, List.setIfInBounds_toArray, List.set_cons_zero, List.set_cons_succ]
  clear hd hG B29 e11
  go_wp2_with fail
  refine ret_c Try.results141 (by rfl) stAuth (cs := #[.slice A8 n8 c8, .slice A9 n9 c9]) BA.out (by rfl) (by rfl) ?_
  exact ⟨_, rfl, autF.lo AU.out (by omega), GZ.out⟩
end Go.Proofs.Ythaadgdeadbhkaa
