/-
  TripleNew of the program, where it answers.
-/
import Derived.Test.YthaadgdeadbhkaaMgFnRounds22
import Derived.Test.YthaadgdeadbhkaaMgFnRounds6
import Derived.Test.YthaadgdeadbhkaaMgFnRounds10
import Derived.Test.YthaadgdeadbhkaaMgFnRounds3
namespace Go.Proofs.Ythaadgdeadbhkaa
open Go.RowKit
set_option linter.unusedVariables false
set_option linter.unusedSimpArgs false
def tnA (s a P : Nat) : Nat := belN s a P
def tnB (s a P : Nat) : Nat := belN s (a + 1) P
def tripleNew (k : KM) (P s a : Nat) : TrM :=
  ⟨authNew k P s (a + 2) (tnA s a P), authNew k P s (a + 2 + 2 * (k.al.length - 1)) (tnB s a P), authNew k P s (a + 2 + 4 * (k.al.length - 1)) (((tnA s a P : Int) * (tnB s a P : Int)) % k.p)⟩
theorem stTriple : St Try.prog 46 6 := ⟨⟨_, Try.underlying46, rfl⟩, by kernel_rfl⟩
def aTup (lo : Nat) (m : AuM) (t : Value) (v : Value) (w : World) : Prop := ∃ A n c B k d, v = .tuple #[.agg #[.slice A n c, .slice B k d], t] ∧ autF lo m (.agg #[.slice A n c, .slice B k d]) w
theorem aTup_st {lo : Nat} {m : AuM} {t : Value} : stable (aTup lo m t) := fun v w w' ⟨A, n, c, B, k, d, h1, h2⟩ hg => ⟨A, n, c, B, k, d, h1, h2.grow hg⟩
theorem aTup_chg {lo g : Nat} {m : AuM} {t v : Value} {w w' : World} (h : aTup lo m t v w) (q : Chg (fun y => y = g) w w') (hg : g < lo) : aTup lo m t v w' := by
  obtain ⟨A, n, c, B, k, d, h1, h2⟩ := h
  exact ⟨A, n, c, B, k, d, h1, autF.chg h2 q hg⟩
theorem chgDD {g : Nat} {w w' : World} (h : Chg (fun y => y = g) w w') : Chg (fun y => y = g) w.drew w'.drew := ⟨h.os, h.tape, h.output, h.size, h.block⟩
theorem autF.far2 {lo g h : Nat} {m : AuM} {v : Value} {w w' : World} {T U : TypeId} {cs ds : Array Value} (H : autF lo m v w) (B : Blk w g T cs) (D : Blk w h U ds) (k : Chg (fun y => y = g ∨ y = h) w w') (hT : 3 ≠ T := by decide) (hU : 3 ≠ U := by decide) : autF lo m v w' := by
  obtain ⟨F, h1, h2⟩ := H
  refine ⟨F, h1.chg k (fun x hx e => ?_), h2⟩
  obtain ⟨u0, u1, F0, F1, _, rfl, o0, o1, _⟩ := cauth_oopen h1
  have : ∃ cur z, w.heap[x]? = some (.cells cur 3 z) := by
    simp at hx
    rcases hx with hx | hx
    · exact cints_ty o0 x hx
    · exact cints_ty o1 x hx
  obtain ⟨cur, z, hc⟩ := this
  unfold Blk at B D
  rcases e with e | e
  · subst e
    rw [B] at hc
    injection hc with hc
    injection hc with _ h3 _
    exact hT h3.symm
  · subst e
    rw [D] at hc
    injection hc with hc
    injection hc with _ h3 _
    exact hU h3.symm
def OwnE (w : World) (cs : List CS) (vs : List Value) : Prop := vs.length = cs.length ∧ ∀ (i : Nat) (c : CS) (v : Value), cs[i]? = some c → vs[i]? = some v → ∃ F, c.own w F v
def AggE (w : World) (cs : List CS) (v : Value) : Prop := ∃ vs : List Value, v = .agg vs.toArray ∧ OwnE w cs vs
theorem OwnE.rd {w : World} {cs : List CS} {vs : List Value} (h : OwnE w cs vs) : RdAll w cs vs := ⟨h.1, fun i c v hc hv => by
  obtain ⟨F, hF⟩ := h.2 i c v hc hv
  exact c.toRd hF⟩
theorem AggE.rd {w : World} {cs : List CS} {v : Value} (h : AggE w cs v) : AggR w cs v := by
  obtain ⟨vs, rfl, h⟩ := h
  exact ⟨vs, rfl, h.rd⟩
theorem OwnE.append {w : World} {cs ds : List CS} {vs us : List Value} (h : OwnE w cs vs) (k : OwnE w ds us) : OwnE w (cs ++ ds) (vs ++ us) := by
  refine ⟨by simp [h.1, k.1], fun i c v hc hv => ?_⟩
  rw [List.getElem?_append] at hc hv
  rw [h.1] at hv
  split at hc
  · rename_i hl
    rw [if_pos hl] at hv
    exact h.2 i c v hc hv
  · rename_i hl
    rw [if_neg hl] at hv
    exact k.2 _ c v hc hv
theorem OwnE.aut {w : World} {lo : Nat} {m : AuM} {vs : List Value} (h : autF lo m (.agg vs.toArray) w) : OwnE w (cauth m) vs := by
  obtain ⟨F, ⟨us, Fs, e, h1, _⟩, _⟩ := h
  injection e with e
  have e : vs = us := by have := congrArg Array.toList e; simpa using this
  subst e
  refine ⟨h1.lv, fun i c v hc hv => ?_⟩
  have hi := (List.getElem?_eq_some_iff.1 hc).1
  obtain ⟨c', v', F', e1, e2, _, ho⟩ := h1.get hi
  rw [hc] at e1; injection e1 with e1; subst e1
  rw [hv] at e2; injection e2 with e2; subst e2
  exact ⟨F', ho⟩
end Go.Proofs.Ythaadgdeadbhkaa
/-
  isZeroAuth of the program.
-/
namespace Go.Proofs.Ythaadgdeadbhkaa
open Go.RowKit
set_option linter.unusedVariables false
set_option linter.unusedSimpArgs false
def zeroA (a : AuM) : Bool := decide (a.sh.length = 0) && decide (a.mc.length = 0)
set_option maxHeartbeats 1000000 in
theorem implisZeroAuth_c (a : AuM) (av : Value) (w0 : World) (ha : AggR w0 (cauth a) av) :
    Calls Try.prog 76 #[av] w0 fun e w' => e = .returned (.bool (zeroA a)) ∧ w0.grownBy w' none := by
  obtain ⟨Ba, da, Ca, fa, rfl, _, _, _, _, hSa, hMa⟩ := cauth_sl ha
  obtain ⟨w1, hw1⟩ : ∃ x : World, w0.alloc (.cells #[.slice Ba a.sh.length da, .slice Ca a.mc.length fa] 44) = x := ⟨_, rfl⟩
  have G1 : Hid (w0.grownBy w1 none) := by rw [← hw1]; exact gbA (gbR _ _) _
  have D1 : Hid (Blk w1 w0.heap.size 44 #[.slice Ba a.sh.length da, .slice Ca a.mc.length fa]) := by rw [← hw1]; exact Blk.new w0 _ _
  have HZ : Hid (zeroA a = (decide (a.sh.length = 0) && decide (a.mc.length = 0))) := rfl
  clear ha hSa hMa
  cases hs : decide (a.sh.length = 0)
  · rw [hs, Bool.false_and] at HZ
    have hs' : ¬ a.sh.length = 0 := by simpa using hs
    have d1 : (((a.sh.length : Int) == 0)) = false := by simpa using hs'
    clear hs
    go_enter Try.func76, Try.ntmps76
    have a0 := D1.out.cell 0
    have a1 := D1.out.cell 1
    simp at a0 a1
    go_wp2_with fail
    exact bodyPost_ret (v := .bool false) (by simp [results, Try.results76]) rfl ⟨retB HZ.out.symm, G1.out⟩
  · have hs' : a.sh.length = 0 := by simpa using hs
    rw [hs, Bool.true_and] at HZ
    clear hs
    have d1 : (((a.sh.length : Int) == 0)) = true := by simpa using hs'
    have hs' := Lib.hid hs'
    go_enter Try.func76, Try.ntmps76
    have a0 := D1.out.cell 0
    have a1 := D1.out.cell 1
    simp at a0 a1
    go_wp2_with fail
    have hz : ((a.mc.length : Int) == 0) = zeroA a := by
      rw [HZ.out]
      by_cases h : a.mc.length = 0 <;> simp [h]
    exact bodyPost_ret (v := .bool ((a.mc.length : Int) == 0)) (by simp [results, Try.results76]) rfl ⟨retB hz, gbA (gbR _ _) _⟩
end Go.Proofs.Ythaadgdeadbhkaa
/-
  copyAuth of the program.
-/
namespace Go.Proofs.Ythaadgdeadbhkaa
open Go.RowKit
set_option linter.unusedVariables false
set_option linter.unusedSimpArgs false
set_option maxHeartbeats 2000000 in
set_option maxRecDepth 100000 in
theorem implcopyAuth_c (a : AuM) (av : Value) (w0 : World) (ha : AggR w0 (cauth a) av) (wa : awf a) :
    Calls Try.prog 132 #[av] w0 fun e w' => ∃ v, e = .returned v ∧ autF w0.heap.size a v w' ∧ w0.grownBy w' none := by
  obtain ⟨Ba, da, Ca, fa, rfl, _, _, _, _, hSa, hMa⟩ := cauth_sl ha
  obtain ⟨w1, hw1⟩ : ∃ x : World, ((w0.alloc (.cells #[.slice Ba a.sh.length da, .slice Ca a.mc.length fa] 44)).alloc (.cells #[.slice none 0 0, .slice none 0 0] 44)) = x := ⟨_, rfl⟩
  have GW : Hid (w0.grownBy w1 none) := by rw [← hw1]; exact gbA (gbA (gbR _ _) _) _
  have z1 : Hid (w1.heap.size = w0.heap.size + 2) := by rw [← hw1]; exact Lib.hid (by simp)
  have D1 : Hid (Blk w1 w0.heap.size 44 #[.slice Ba a.sh.length da, .slice Ca a.mc.length fa]) := by rw [← hw1]; exact (Blk.new w0 _ _).grow (gbA (gbR _ _) _)
  have D3 : Hid (Blk w1 (w0.heap.size + 1) 44 #[.slice none 0 0, .slice none 0 0]) := by rw [← hw1]; exact Blk.new' _ _ _ _ (by simp)
  have IS := Lib.hid (hSa.grow GW.out)
  have IM := Lib.hid (hMa.grow GW.out)
  have WA := Lib.hid wa
  clear ha hSa hMa wa
  go_enter Try.func132, Try.ntmps132
  go_wp2_with fail
  clear hw1
  obtain ⟨lo, hlo⟩ : ∃ lo, w0.heap.size + 2 = lo := ⟨_, rfl⟩
  obtain ⟨gR, hgR'⟩ : ∃ g, w0.heap.size + 1 = g := ⟨_, rfl⟩
  have hgR : gR < lo := by omega
  have hwR : w0.heap.size ≤ gR := by omega
  have hlz : lo ≤ w1.heap.size := by have := z1.out; omega
  rw [hgR'] at D3 ⊢
  refine region_chain [.rd (.pointer (some ⟨w0.heap.size, 0, none⟩)), .rd (.slice Ba a.sh.length da), .ch, .rd (.pointer (some ⟨w0.heap.size, 1, none⟩)), .rd (.slice Ca a.mc.length fa), .ch, .ch, .ch] (fun _ => False)
    [⟨[], fun _ w' => w1.drew.grownBy w' none⟩,
     ⟨[5], fun l w' => row1 lo a.sh.length a.sh (l.getD 0 undef) w' ∧ w1.drew.grownBy w' none⟩,
     ⟨[5, 8], fun l w' => row2 lo a.sh.length a.mc.length a.sh a.mc (l.getD 0 undef) (l.getD 1 undef) w' ∧ w1.drew.grownBy w' none⟩,
     ⟨[9], fun l w' => autF lo ⟨a.sh, a.mc⟩ (l.getD 0 undef) w' ∧ w1.drew.grownBy w' none⟩,
     ⟨[], fun _ w' => (∃ A9 n9 c9 B9 k9 d9, autF lo ⟨a.sh, a.mc⟩ (.agg #[.slice A9 n9 c9, .slice B9 k9 d9]) w' ∧ Blk w' gR 44 #[.slice A9 n9 c9, .slice B9 k9 d9]) ∧ w1.heap.size ≤ w'.heap.size ∧ w0.grownBy w' none⟩]
    (by kernel_rfl) (by kernel_rfl) (by kernel_rfl) 4 (by kernel_rfl) (by simp only [flOk, and_true]) (gbR _ _) rfl ?_ ?_
  · simp only [hopsK, hopK, Kd.next, and_true]
    refine ⟨?_, ?_, ?_, ?_, ?_, ?_, ?_, ?_⟩
    rotate_left 2
    · intro f w4 hG hI hd
      have hI : w1.drew.grownBy w4 none := hI
      have hg4 := gbT (gbD (gbR w1 none)) hI
      have hz4 := hg4.size
      (try simp [depsC, dstAt, kAt, bindE, List.filter_cons, bd_data, bd_chain, bd_guard, bd_phase, bd_text, bd_gc] at hd)
      (first | simp [puts, dsts, Act.put, hd] | simp [puts, dsts, Act.put])
      clear hd
      go_wp2_with fail
      refine (ints_c Ba a.sh.length da a.sh w4 (IS.out.grow hg4) (by have := WA.out.1; omega)).mono ?_
      rintro e w6 ⟨v6, rfl, o6, g6⟩
      have O6 := Lib.hid (own_base o6 (show lo ≤ w4.heap.size by omega))
      have G6 := Lib.hid (gbT hI g6)
      have Q6 := Lib.hid g6
      clear o6 g6
      go_wp2_with fail
      exact ⟨_, rfl, ⟨row1.of O6.out, G6.out⟩, ⟨Chg.of Q6.out (by simp), by simp [keepsC]⟩⟩
    rotate_left 2
    · intro f w4 hG hI hd
      obtain ⟨h1, hI⟩ := hI
      have H1 : Hid (row1 lo a.sh.length a.sh (f 5) w4) := Lib.hid h1
      have hg4 := gbT (gbD (gbR w1 none)) hI
      have hz4 := hg4.size
      clear h1
      (try simp [depsC, dstAt, kAt, bindE, List.filter_cons, bd_data, bd_chain, bd_guard, bd_phase, bd_text, bd_gc] at hd)
      (first | simp [puts, dsts, Act.put, hd] | simp [puts, dsts, Act.put])
      clear hd
      go_wp2_with fail
      refine (ints_c Ca a.mc.length fa a.mc w4 (IM.out.grow hg4) (by have := WA.out.2; omega)).mono ?_
      rintro e w6 ⟨v6, rfl, o6, g6⟩
      have R6 := Lib.hid (row2.of H1.out g6 (show lo ≤ w4.heap.size by omega) o6)
      have G6 := Lib.hid (gbT hI g6)
      have Q6 := Lib.hid g6
      clear o6 g6
      go_wp2_with fail
      exact ⟨_, rfl, ⟨R6.out, G6.out⟩, ⟨Chg.of Q6.out (by simp), by simp [keepsC]⟩⟩
    · intro f w4 hG hI hd
      obtain ⟨h1, hI⟩ := hI
      have h1 : row2 lo a.sh.length a.mc.length a.sh a.mc (f 5) (f 8) w4 := h1
      have HA := h1.agg
      obtain ⟨A1, c1, e1⟩ := h1.f1
      obtain ⟨A2, c2, e2⟩ := h1.f2
      rw [e1, e2] at HA
      have HA := Lib.hid HA
      clear h1 hd
      simp [puts, dsts, Act.put, e1, e2]
      go_wp2_with fail
      exact ⟨_, rfl, ⟨HA.out, hI⟩, ⟨Chg.refl _ _, by simp [keepsC]⟩⟩
    · intro f w4 hG hI hd
      obtain ⟨h1, hI⟩ := hI
      have h1 : autF lo ⟨a.sh, a.mc⟩ (f 9) w4 := h1
      obtain ⟨A9, n9, c9, B9, k9, d9, e9⟩ := h1.form
      rw [e9] at h1
      have hg4 := gbT (gbD (gbR w1 none)) hI
      have R4 := (D3.out).grow hg4
      have f0 := R4.frozen 0
      have f1 := R4.frozen 1
      have b0 := R4.cell 0
      have b1 := R4.cell 1
      simp at b0 b1
      have RS := Lib.hid (blk_setCells R4 [.slice A9 n9 c9, .slice B9 k9 d9] rfl)
      have CH := chg_setCells gR [.slice A9 n9 c9, .slice B9 k9 d9] 0 w4
      have AS := Lib.hid (h1.chg CH hgR)
      have GS := Lib.hid (gb_chg (gbT GW.out hg4) CH hwR)
      have ZS := Lib.hid (Nat.le_trans hg4.size CH.size)
      clear R4 h1 hI CH
      (try simp [depsC, dstAt, kAt, bindE, List.filter_cons, bd_data, bd_chain, bd_guard, bd_phase, bd_text, bd_gc] at hd)
      simp [puts, dsts, Act.put, e9]
      go_wp2_with fail
      exact ⟨rfl, .bool false, ⟨A9, n9, c9, B9, k9, d9, AS.out, RS.out⟩, ZS.out, GS.out⟩
    all_goals
      intro f w4 hG hd
      have hg4 := gbT (gbD (gbR w1 none)) (chgF hG)
      have k1 := (D1.out.grow hg4).cell 0; have k2 := (D1.out.grow hg4).cell 1; simp at k1 k2
      (try simp [depsC, dstAt, kAt, bindE, List.filter_cons, bd_data, bd_chain, bd_guard, bd_phase, bd_text, bd_gc] at hd)
      (first | simp [puts, dsts, Act.put, hd] | simp [puts, dsts, Act.put])
      clear hd
      go_wp2_with fail
      exact ⟨rfl, rfl⟩
  intro f w9 hI hd
  obtain ⟨⟨A9, n9, c9, B9, k9, d9, hAU, hBR⟩, _, hGZ⟩ := hI
  simp only [puts, dsts, Act.put, List.filterMap_cons, List.filterMap_nil, List.setIfInBounds_toArray, List.set_cons_zero, List.set_cons_succ]
  clear hd
  go_wp2_with fail
  refine ret_c Try.results132 (by rfl) stAuth (cs := #[.slice A9 n9 c9, .slice B9 k9 d9]) hBR (by rfl) (by rfl) ?_
  exact ⟨_, rfl, autF.lo hAU (by omega), hGZ⟩
end Go.Proofs.Ythaadgdeadbhkaa
/-
  append onto a new empty row ('append([]T{}, x...)'): nothing old changes.
-/
namespace Go.Proofs.Ythaadgdeadbhkaa
open Go.RowKit
set_option linter.unusedVariables false
set_option linter.unusedSimpArgs false
section
variable {P : Program}
theorem run_append_empty (w : World) (t ty e : TypeId) (i : TypeInfo) (z : Value) (size bytes : Nat) (ht : P.underlying t = some (.slice e)) (hi : P.info? e = some i) (hz : i.zero = some z)
    (hsize : i.size = size) (hby : i.bytes = bytes) (hzs : z.cells.size = size) (hsz : 0 < size)
    (g : Nat) (hown : w.ownsRow 0 e size (.slice (some ⟨g, 0, none⟩) 0 0) 0 [])
    (a : Addr) (m c : Nat) (news : List Value) (hl : news.length = m * size) (hnews : ∀ j u, news[j]? = some u → w.cell? (a.add j) = some u) (h1 : ∀ u ∈ news, u.oneCell' = true)
    (h63 : m ≤ maxLen) (hbytes : m * bytes ≤ 140737488355328) :
    ∃ v' w', (Builtin.append_ #[t, t] ty #[.slice (some ⟨g, 0, none⟩) 0 0, .slice (some a) m c]).run P w = .ok v' w' ∧ w'.ownsRow 0 e size v' m news ∧ w.grownBy w' none ∧ (∀ g', v'.ownBlock = some g' → g' = g ∨ w.heap.size ≤ g') := by
  subst hsize
  subst hby
  rcases Nat.eq_zero_or_pos m with h0 | h0
  · subst h0
    obtain rfl : news = [] := List.eq_nil_of_length_eq_zero (by simpa using hl)
    have hr := run_append_room_cells (P := P) (w := w) t ty e i ht hi g 0 0 0 a 0 c [] (by simp) (by simp) (by simp) (by simp) (by simp) (by simp)
    refine ⟨_, _, hr, ?_, ?_, ?_⟩
    · exact hown
    · exact gbR _ _
    · intro g' hg'
      simp [Value.ownBlock] at hg'
      exact .inl hg'.symm
  · obtain ⟨v', w', hr, ho, hgr, _⟩ := run_append_own w 0 t ty e i z i.size i.bytes ht hi hz rfl rfl hzs hsz _ 0 [] hown a m c news hl hnews h1 (by omega) (by simpa using hbytes) (Nat.zero_le _)
    have holds : ∀ j u, ([] : List Value)[j]? = some u → w.cell? ((⟨g, 0, none⟩ : Addr).add j) = some u := fun j u h => by simp at h
    have hr2 := run_append_grow (P := P) w t ty e i z ht hi hz ⟨g, 0, none⟩ 0 0 [] (by simp) holds a m c news hl hnews (by omega) (by simp only [maxLen] at h63; omega) (growslice_fits (by omega) (by simpa using hbytes))
    rw [hr] at hr2
    injection hr2 with e1 e2
    subst e2
    refine ⟨_, _, hr, by simpa using ho, gbA (gbD (gbR _ _)) _, fun g' hg' => .inr ?_⟩
    subst e1
    simp [Value.ownBlock] at hg'
    omega
variable {ops : Array Oper} {rest : List Oper} {o : Oper} {a : Act} {Q : Exit → Act → World → Prop}
theorem wp_appendE (wr : World) {t e : TypeId} {z : Value} {size bytes : Nat} (E : El P t e z size bytes) (hgd : o.guard = none) (s x : Operand)
    (ho : o.op = .call { callee := .builtin .append, args := #[s, x], argTypes := #[t, t] })
    (g : Nat) (hown : wr.ownsRow 0 e size (.slice (some ⟨g, 0, none⟩) 0 0) 0 []) (hs : a.eval s = .slice (some ⟨g, 0, none⟩) 0 0) (A : Option Addr) (m c : Nat) (ys : List Value) (hx : a.eval x = .slice A m c) (hr : Rd wr size A m ys) (h1 : ∀ u ∈ ys, u.oneCell' = true)
    (hn : m ≤ maxLen) (hb : m * bytes ≤ 140737488355328)
    (h : ∀ v' w', w'.ownsRow 0 e size v' m ys → wr.grownBy w' none → (∀ g', v'.ownBlock = some g' → g' = g ∨ wr.heap.size ≤ g') → wpList P ops Q rest (a.put o.dst v') w') :
    wpList P ops Q (o :: rest) a wr := by
  obtain ⟨i, hi, hz0, hz1, hz2⟩ := info_parts E.hi
  have key : ∀ ad : Addr, A = some ad → (∀ j u, ys[j]? = some u → wr.cell? (ad.add j) = some u) → wpList P ops Q (o :: rest) a wr := fun ad hA hc => by
    obtain ⟨v', w', hr, h2, h3, h4⟩ := run_append_empty (P := P) wr t o.type e i z size bytes E.ht hi hz0 hz1 hz2 E.hz E.hs g hown ad m c ys hr.1 hc h1 hn hb
    refine wpList_plain hgd fun _ hK => ?_
    unfold Oper.wp execOp
    simp only [ho, resolve, invoke, builtin, Sem.run_bind, Sem.run_pure, Result.andThen_ok, List.map_toArray, List.map_cons, List.map_nil, hs, hx, hA, hr]
    exact hK _ _ (h v' w' h2 h3 h4)
  rcases Nat.eq_zero_or_pos m with h0 | h0
  · subst h0
    have hys : ys = [] := List.eq_nil_of_length_eq_zero (by simpa using hr.1)
    subst hys
    cases A with
    | some ad => exact key ad rfl fun j u hu => by simp at hu
    | none =>
      refine wpList_plain hgd fun _ hK => ?_
      have hrun := run_append_of_nil (P := P) wr 0 t o.type e i size E.ht hi _ 0 [] hown c
      unfold Oper.wp execOp
      simp only [ho, resolve, invoke, builtin, Sem.run_bind, Sem.run_pure, Result.andThen_ok, List.map_toArray, List.map_cons, List.map_nil, hs, hx, hrun]
      exact hK _ _ (h _ wr hown (gbR _ _) fun g' hg => .inl (by simp [Value.ownBlock] at hg; exact hg.symm))
  · obtain ⟨b, off, hA, hb', hc⟩ := hr.2 h0
    refine key ⟨b, off, none⟩ hA fun j u hu => ?_
    have hadd : (⟨b, off, none⟩ : Addr).add j = ⟨b, off + j, none⟩ := by unfold Addr.add; split <;> simp_all
    have hj : j < m * size := by rw [← hr.1]; exact (List.getElem?_eq_some_iff.1 hu).1
    rw [hadd, hc j hj, hu]
end
end Go.Proofs.Ythaadgdeadbhkaa
/-
  More draws: once in n, a list of numbers below p, a word.
-/
namespace Go.Proofs.Ythaadgdeadbhkaa
open Go.RowKit
set_option linter.unusedVariables false
set_option linter.unusedSimpArgs false
theorem Chg.rdk {S : Nat → Prop} {w w' : World} {sz n : Nat} {A : Option Addr} {xs : List Value} (h : Rd w sz A n xs) (k : Chg S w w') (hs : 0 < n → ∀ a, A = some a → ¬ S a.block) : Rd w' sz A n xs := by
  rcases Nat.eq_zero_or_pos n with h0 | h0
  · exact ⟨h.1, fun hn => by omega⟩
  · exact Chg.rd h k (hs h0)
theorem Cur.kept {S : Nat → Prop} {w w' : World} {g : Nat} {A : Option Addr} {n c : Nat} {bs : List Int} (h : Cur w g A n c bs) (k : Chg S w w') (hg : w'.heap[g]? = w.heap[g]?) (hs : 0 < n → ∀ a, A = some a → ¬ S a.block) : Cur w' g A n c bs := by
  obtain ⟨⟨i, hh, hi, hb⟩, k2, k3, k4, k5⟩ := h
  exact ⟨⟨i, hh, hi, hg.trans hb⟩, Chg.rdk k2 k hs, k3, k4, k5⟩
theorem Cur.old {w : World} {g : Nat} {A : Option Addr} {n c : Nat} {bs : List Int} (h : Cur w g A n c bs) {y : Nat} (hy : w.heap.size ≤ y) : 0 < n → ∀ a, A = some a → a.block ≠ y := fun hn a ha e => by
  obtain ⟨b, o, rfl, hb, _⟩ := h.bytes.2 (by omega)
  injection ha with ha
  subst ha
  simp only at e
  omega
theorem gbC {a b c : World} {r : Option Nat} {S : Nat → Prop} (h : a.grownBy b r) (k : Chg S b c) (hs : ∀ i, S i → some i = r ∨ a.heap.size ≤ i) : a.grownBy c r :=
  ⟨k.os.trans h.os, k.tape.trans h.tape, k.output.trans h.output, Nat.le_trans h.size k.size, fun i hi hr => (k.block i (Nat.lt_of_lt_of_le hi h.size) fun hS => by
    rcases hs i hS with e | e
    · exact hr e
    · omega).trans (h.block i hi hr)⟩
set_option maxHeartbeats 400000 in
theorem l02Word_c (w : World) (g : Nat) (A : Option Addr) (n c : Nat) (bs : List Int) (hc : Cur w g A n c bs) :
    Calls Try.prog 155 #[.pointer (some ⟨g, 0, none⟩)] w fun e w' => ∃ x : Int, e = .returned (.int .i64 x) ∧ (0 ≤ x ∧ x ≤ 4294967295) ∧ Cur w' g A n c bs ∧ w.grownBy w' (some g) := by
  have HC := Lib.hid hc
  clear hc
  go_enter Try.func155, Try.ntmps155
  go_wp2_with fail
  refine (l01Below_c _ 4 (by omega) g A n c bs HC.out).mono ?_
  rintro e w1 ⟨x, rfl, hx0, hx1, hc1, hg1⟩
  have H1 := Lib.hid hc1
  have hlt := hc1.lt
  clear hc1 hx1
  by_cases h0 : x = 0
  · subst h0
    go_wp2_with fail
    refine (l01PickInt_c _ _ 5 5 [0, 1, 4294967295, 2147483648, 65536] (ints_new w1 _ [0, 1, 4294967295, 2147483648, 65536]) (by omega) (by omega) g (fun a ha e => by injection ha with ha; subst ha; injection e with e; simp at e; omega) A n c bs (H1.out.grow (gbA (gbR _ _) _))).mono ?_
    rintro e w2 ⟨y, rfl, hy, hc2, hg2⟩
    have H2 := Lib.hid hc2
    have HY := Lib.hid hy
    have G2 := Lib.hid (gbNN hg1 (gbT (gbW (gbA (gbR w1 none) _)) hg2) (fun _ h => .inr (by rw [h])))
    clear hc2 hy hg2
    go_wp2_with fail
    go_ret
    refine ⟨y, rfl, ?_, H2.out, G2.out⟩
    have := HY.out
    simp at this
    omega
  · have d0 : (x == 0) = false := by simpa using h0
    by_cases h1 : x = 1
    · subst h1
      go_wp2_with fail
      refine (l01Below_c _ 200 (by omega) g A n c bs H1.out).mono ?_
      rintro e w2 ⟨y, rfl, hy0, hy1, hc2, hg2⟩
      have H2 := Lib.hid hc2
      clear hc2
      go_wp2_with fail
      go_ret
      exact ⟨y, rfl, ⟨hy0, by have := hy1 (by omega); omega⟩, H2.out, gbT hg1 hg2⟩
    · have d1 : (x == 1) = false := by simpa using h1
      go_wp2_with fail
      refine (l01Below_c _ 65536 (by omega) g A n c bs H1.out).mono ?_
      rintro e w2 ⟨y, rfl, hy0, hy1, hc2, hg2⟩
      have H2 := Lib.hid hc2
      have hy2 := hy1 (by omega)
      clear hc2 hy1
      go_wp2_with fail
      refine (l01Below_c _ 65536 (by omega) g A n c bs H2.out).mono ?_
      rintro e w3 ⟨z, rfl, hz0, hz1, hc3, hg3⟩
      have H3 := Lib.hid hc3
      have hz2 := hz1 (by omega)
      clear hc3 hz1
      go_wp2_with fail
      go_ret
      exact ⟨_, rfl, by omega, H3.out, gbT (gbT hg1 hg2) hg3⟩
set_option maxHeartbeats 800000 in
theorem l03List_c (w : World) (p : Int) (hp : p ≤ 1099511627776) (m : Nat) (hm : m ≤ 1048576) (g : Nat) (A : Option Addr) (n c : Nat) (bs : List Int) (hc : Cur w g A n c bs) :
    Calls Try.prog 156 #[.pointer (some ⟨g, 0, none⟩), .int .i64 p, .int .i64 m] w fun e w' => ∃ (v : Value) (qs : List Int), e = .returned v ∧ w'.ownsRow w.heap.size 3 1 v m (qs.map (Value.int .i64)) ∧ qs.length = m ∧ (∀ q ∈ qs, 0 ≤ q ∧ (1 ≤ p → q < p)) ∧ Cur w' g A n c bs ∧ w.grownBy w' (some g) := by
  have hgl := hc.lt
  have HO := Lib.hid (hc.old (Nat.le_refl _))
  have HC := Lib.hid (hc.grow (gbA (gbR w none) (.cells #[] 3)))
  have HR := Lib.hid (World.ownsRow_made (e := 3) (size := 1) (base := w.heap.size) w #[] 0 (by omega) (by simp) rfl)
  have HG : Hid (w.grownBy (w.alloc (.cells #[] 3)) (some g)) := Lib.hid (gbW (gbA (gbR w none) _))
  have HL : Hid (∀ y, w.heap.size ≤ y → 0 < n → ∀ a, A = some a → a.block ≠ y) := Lib.hid (fun y hy => hc.old hy)
  clear hc
  go_enter Try.func156, Try.ntmps156
  go_wp2_with fail
  go_loopw [7, 8] (fun s i wr => ∃ (k : Nat) (qs : List Int), k ≤ m ∧ i = .int .i64 k ∧ Hid (wr.ownsRow w.heap.size 3 1 s k (qs.map (Value.int .i64))) ∧ Hid (qs.length = k ∧ ∀ q ∈ qs, 0 ≤ q ∧ (1 ≤ p → q < p)) ∧ Hid (Cur wr g A n c bs) ∧ Hid (w.grownBy wr (some g))) (fun _ i _ => m - (intOf i).toNat)
  case atStart => exact ⟨0, [], by omega, rfl, HR.out, ⟨rfl, by simp⟩, HC.out, HG.out⟩
  case round =>
    obtain ⟨k, qs, hk, rfl, hown, hqs, hcur, hg⟩ := hrel
    by_cases hlt : k < m
    · have i1 : (k : Int) < (m : Int) := by omega
      go_wp2_with fail
      refine (l01Below_c _ p hp _ A n c bs hcur.out).mono ?_
      rintro e w2 ⟨x, rfl, hx0, hx1, hc2, hg2⟩
      have hown2 := own_grown hown.out hg2 (by
        cases hb : Value.ownBlock _ with
        | none => exact .inl rfl
        | some b => refine .inr fun e => ?_
                    have := (hown.out.lt b hb).1
                    injection e with e
                    omega)
      have HC2 := Lib.hid hc2
      have HX1 := Lib.hid hx1
      have HG2 := Lib.hid (gbT hg.out hg2)
      have hw2 := hg2.size
      have hw := hg.out.size
      clear hc2 hg2 hx1 hown hcur hg
      go_wp2_with (at_builtin; refine wp_append1 w2 el_int rfl (.tmp 15) (.tmp 19) rfl _ rfl (by simp [Value.oneCell']) w.heap.size _ k _ hown2 rfl rfl (by unfold maxLen; omega) (by omega) (by omega) ?_; intro v' w3 hown3 hgrow)
      have h1 := Lib.hid (show w3.ownsRow w.heap.size 3 1 v' (k + 1) ((qs ++ [x]).map (Value.int .i64)) by simpa using hown3)
      have h2 := Lib.hid (gbNN HG2.out hgrow fun y e => .inl (hown2.lt y e).1)
      have h3 := Lib.hid (show Cur w3 g A n c bs by
        obtain ⟨⟨i, hh, hi, hb⟩, k2, k3, k4, k5⟩ := HC2.out
        have hne : some g ≠ Value.ownBlock _ := fun e => by have := (hown2.lt _ e.symm).1; omega
        exact ⟨⟨i, hh, hi, hb.grown hgrow hne⟩, k2.grown' hgrow (fun hn a ha e => by have := (hown2.lt _ e.symm).1; exact HL.out a.block this hn a ha rfl), k3, k4, k5⟩)
      clear hown3 hgrow hown2
      go_wp2_with fail
      go_roundw
      case rel => exact ⟨k + 1, qs ++ [x], by omega, by go_num, h1.out, ⟨by simp [hqs.out.1], fun q hq => by
        rcases List.mem_append.1 hq with hq | hq
        · exact hqs.out.2 q hq
        · simp at hq; subst hq; exact ⟨hx0, HX1.out⟩⟩, h3.out, h2.out⟩
      case measure => simp [intOf]; omega
    · have hkm : k = m := by omega
      subst hkm
      go_wp2_with fail
      go_ret
      exact ⟨_, qs, rfl, hown.out, hqs.out.1, hqs.out.2, hcur.out, hg.out⟩
end Go.Proofs.Ythaadgdeadbhkaa
