/-
  TripleUse of the program.
-/
import Derived.Test.YthaadgdeadbhkaaMgFnExactEngineNew25
import Derived.Test.YthaadgdeadbhkaaMgFnExactEngineNew8
namespace Go.Proofs.Ythaadgdeadbhkaa
open Go.RowKit
set_option linter.unusedVariables false
set_option linter.unusedSimpArgs false
end Go.Proofs.Ythaadgdeadbhkaa
/-
  valueIn and TripleOpen of the program.
-/
namespace Go.Proofs.Ythaadgdeadbhkaa
open Go.RowKit
set_option linter.unusedVariables false
set_option linter.unusedSimpArgs false
def openB (k : KM) (x y : AuM) (t : TrM) : Bool := formB k x && formB k y && formB k t.a && formB k t.b
def openD (k : KM) (x y : AuM) (t : TrM) : Int := if openB k x y t then (fsum k.p x.sh - fsum k.p t.a.sh) % k.p else 0
def openE (k : KM) (x y : AuM) (t : TrM) : Int := if openB k x y t then (fsum k.p y.sh - fsum k.p t.b.sh) % k.p else 0
end Go.Proofs.Ythaadgdeadbhkaa
/-
  TripleNew of the program, where it answers.
-/
namespace Go.Proofs.Ythaadgdeadbhkaa
open Go.RowKit
set_option linter.unusedVariables false
set_option linter.unusedSimpArgs false
def tnA (s a P : Nat) : Nat := belN s a P
def tnB (s a P : Nat) : Nat := belN s (a + 1) P
def tripleNew (k : KM) (P s a : Nat) : TrM :=
  ⟨authNew k P s (a + 2) (tnA s a P), authNew k P s (a + 2 + 2 * (k.al.length - 1)) (tnB s a P), authNew k P s (a + 2 + 4 * (k.al.length - 1)) (((tnA s a P : Int) * (tnB s a P : Int)) % k.p)⟩
def aTup (lo : Nat) (m : AuM) (t : Value) (v : Value) (w : World) : Prop := ∃ A n c B k d, v = .tuple #[.agg #[.slice A n c, .slice B k d], t] ∧ autF lo m (.agg #[.slice A n c, .slice B k d]) w
theorem aTup_st {lo : Nat} {m : AuM} {t : Value} : stable (aTup lo m t) := fun v w w' ⟨A, n, c, B, k, d, h1, h2⟩ hg => ⟨A, n, c, B, k, d, h1, h2.grow hg⟩
theorem aTup_chg {lo g : Nat} {m : AuM} {t v : Value} {w w' : World} (h : aTup lo m t v w) (q : Chg (fun y => y = g) w w') (hg : g < lo) : aTup lo m t v w' := by
  obtain ⟨A, n, c, B, k, d, h1, h2⟩ := h
  exact ⟨A, n, c, B, k, d, h1, autF.chg h2 q hg⟩
def OwnE (w : World) (cs : List CS) (vs : List Value) : Prop := vs.length = cs.length ∧ ∀ (i : Nat) (c : CS) (v : Value), cs[i]? = some c → vs[i]? = some v → ∃ F, c.own w F v
def AggE (w : World) (cs : List CS) (v : Value) : Prop := ∃ vs : List Value, v = .agg vs.toArray ∧ OwnE w cs vs
theorem OwnE.rd {w : World} {cs : List CS} {vs : List Value} (h : OwnE w cs vs) : RdAll w cs vs := ⟨h.1, fun i c v hc hv => by
  obtain ⟨F, hF⟩ := h.2 i c v hc hv
  exact c.toRd hF⟩
theorem AggE.rd {w : World} {cs : List CS} {v : Value} (h : AggE w cs v) : AggR w cs v := by
  obtain ⟨vs, rfl, h⟩ := h
  exact ⟨vs, rfl, h.rd⟩
theorem OwnE.append {w : World} {cs ds : List CS} {vs us : List Value} (h : OwnE w cs vs) (k : OwnE w ds us) : OwnE w (cs ++ ds) (vs ++ us) := by
  refine ⟨by simp [h.1, k.1], fun i c v hc hv => ?_⟩
  rw [List.getElem?_append] at hc hv
  rw [h.1] at hv
  split at hc
  · rename_i hl
    rw [if_pos hl] at hv
    exact h.2 i c v hc hv
  · rename_i hl
    rw [if_neg hl] at hv
    exact k.2 _ c v hc hv
end Go.Proofs.Ythaadgdeadbhkaa
/-
  isZeroAuth of the program.
-/
namespace Go.Proofs.Ythaadgdeadbhkaa
open Go.RowKit
set_option linter.unusedVariables false
set_option linter.unusedSimpArgs false
def zeroA (a : AuM) : Bool := decide (a.sh.length = 0) && decide (a.mc.length = 0)
set_option maxHeartbeats 1000000 in
theorem implisZeroAuth_c (a : AuM) (av : Value) (w0 : World) (ha : AggR w0 (cauth a) av) :
    Calls Try.prog 76 #[av] w0 fun e w' => e = .returned (.bool (zeroA a)) ∧ w0.grownBy w' none := by
  obtain ⟨Ba, da, Ca, fa, rfl, _, _, _, _, hSa, hMa⟩ := cauth_sl ha
  obtain ⟨w1, hw1⟩ : ∃ x : World, w0.alloc (.cells #[.slice Ba a.sh.length da, .slice Ca a.mc.length fa] 44) = x := ⟨_, rfl⟩
  have G1 : Hid (w0.grownBy w1 none) := by rw [← hw1]; exact gbA (gbR _ _) _
  have D1 : Hid (Blk w1 w0.heap.size 44 #[.slice Ba a.sh.length da, .slice Ca a.mc.length fa]) := by rw [← hw1]; exact Blk.new w0 _ _
  have HZ : Hid (zeroA a = (decide (a.sh.length = 0) && decide (a.mc.length = 0))) := rfl
  clear ha hSa hMa
  cases hs : decide (a.sh.length = 0)
  · rw [hs, Bool.false_and] at HZ
    have hs' : ¬ a.sh.length = 0 := by simpa using hs
    have d1 : (((a.sh.length : Int) == 0)) = false := by simpa using hs'
    clear hs
    go_enter Try.func76, Try.ntmps76
    have a0 := D1.out.cell 0
    have a1 := D1.out.cell 1
    simp at a0 a1
    go_wp2_with fail
    exact bodyPost_ret (v := .bool false) (by simp [results, Try.results76]) rfl ⟨retB HZ.out.symm, G1.out⟩
  · have hs' : a.sh.length = 0 := by simpa using hs
    rw [hs, Bool.true_and] at HZ
    clear hs
    have d1 : (((a.sh.length : Int) == 0)) = true := by simpa using hs'
    have hs' := Lib.hid hs'
    go_enter Try.func76, Try.ntmps76
    have a0 := D1.out.cell 0
    have a1 := D1.out.cell 1
    simp at a0 a1
    go_wp2_with fail
    have hz : ((a.mc.length : Int) == 0) = zeroA a := by
      rw [HZ.out]
      by_cases h : a.mc.length = 0 <;> simp [h]
    exact bodyPost_ret (v := .bool ((a.mc.length : Int) == 0)) (by simp [results, Try.results76]) rfl ⟨retB hz, gbA (gbR _ _) _⟩
end Go.Proofs.Ythaadgdeadbhkaa
/-
  copyAuth of the program.
-/
namespace Go.Proofs.Ythaadgdeadbhkaa
open Go.RowKit
set_option linter.unusedVariables false
set_option linter.unusedSimpArgs false
end Go.Proofs.Ythaadgdeadbhkaa
/-
  append onto a new empty row ('append([]T{}, x...)'): nothing old changes.
-/
namespace Go.Proofs.Ythaadgdeadbhkaa
open Go.RowKit
set_option linter.unusedVariables false
set_option linter.unusedSimpArgs false
section
variable {P : Program}
theorem run_append_empty (w : World) (t ty e : TypeId) (i : TypeInfo) (z : Value) (size bytes : Nat) (ht : P.underlying t = some (.slice e)) (hi : P.info? e = some i) (hz : i.zero = some z)
    (hsize : i.size = size) (hby : i.bytes = bytes) (hzs : z.cells.size = size) (hsz : 0 < size)
    (g : Nat) (hown : w.ownsRow 0 e size (.slice (some ⟨g, 0, none⟩) 0 0) 0 [])
    (a : Addr) (m c : Nat) (news : List Value) (hl : news.length = m * size) (hnews : ∀ j u, news[j]? = some u → w.cell? (a.add j) = some u) (h1 : ∀ u ∈ news, u.oneCell' = true)
    (h63 : m ≤ maxLen) (hbytes : m * bytes ≤ 140737488355328) :
    ∃ v' w', (Builtin.append_ #[t, t] ty #[.slice (some ⟨g, 0, none⟩) 0 0, .slice (some a) m c]).run P w = .ok v' w' ∧ w'.ownsRow 0 e size v' m news ∧ w.grownBy w' none ∧ (∀ g', v'.ownBlock = some g' → g' = g ∨ w.heap.size ≤ g') := by
  subst hsize
  subst hby
  rcases Nat.eq_zero_or_pos m with h0 | h0
  · subst h0
    obtain rfl : news = [] := List.eq_nil_of_length_eq_zero (by simpa using hl)
    have hr := run_append_room_cells (P := P) (w := w) t ty e i ht hi g 0 0 0 a 0 c [] (by simp) (by simp) (by simp) (by simp) (by simp) (by simp)
    refine ⟨_, _, hr, ?_, ?_, ?_⟩
    · exact hown
    · exact gbR _ _
    · intro g' hg'
      simp [Value.ownBlock] at hg'
      exact .inl hg'.symm
  · obtain ⟨v', w', hr, ho, hgr, _⟩ := run_append_own w 0 t ty e i z i.size i.bytes ht hi hz rfl rfl hzs hsz _ 0 [] hown a m c news hl hnews h1 (by omega) (by simpa using hbytes) (Nat.zero_le _)
    have holds : ∀ j u, ([] : List Value)[j]? = some u → w.cell? ((⟨g, 0, none⟩ : Addr).add j) = some u := fun j u h => by simp at h
    have hr2 := run_append_grow (P := P) w t ty e i z ht hi hz ⟨g, 0, none⟩ 0 0 [] (by simp) holds a m c news hl hnews (by omega) (by simp only [maxLen] at h63; omega) (growslice_fits (by omega) (by simpa using hbytes))
    rw [hr] at hr2
    injection hr2 with e1 e2
    subst e2
    refine ⟨_, _, hr, by simpa using ho, gbA (gbD (gbR _ _)) _, fun g' hg' => .inr ?_⟩
    subst e1
    simp [Value.ownBlock] at hg'
    omega
variable {ops : Array Oper} {rest : List Oper} {o : Oper} {a : Act} {Q : Exit → Act → World → Prop}
theorem wp_appendE (wr : World) {t e : TypeId} {z : Value} {size bytes : Nat} (E : El P t e z size bytes) (hgd : o.guard = none) (s x : Operand)
    (ho : o.op = .call { callee := .builtin .append, args := #[s, x], argTypes := #[t, t] })
    (g : Nat) (hown : wr.ownsRow 0 e size (.slice (some ⟨g, 0, none⟩) 0 0) 0 []) (hs : a.eval s = .slice (some ⟨g, 0, none⟩) 0 0) (A : Option Addr) (m c : Nat) (ys : List Value) (hx : a.eval x = .slice A m c) (hr : Rd wr size A m ys) (h1 : ∀ u ∈ ys, u.oneCell' = true)
    (hn : m ≤ maxLen) (hb : m * bytes ≤ 140737488355328)
    (h : ∀ v' w', w'.ownsRow 0 e size v' m ys → wr.grownBy w' none → (∀ g', v'.ownBlock = some g' → g' = g ∨ wr.heap.size ≤ g') → wpList P ops Q rest (a.put o.dst v') w') :
    wpList P ops Q (o :: rest) a wr := by
  obtain ⟨i, hi, hz0, hz1, hz2⟩ := info_parts E.hi
  have key : ∀ ad : Addr, A = some ad → (∀ j u, ys[j]? = some u → wr.cell? (ad.add j) = some u) → wpList P ops Q (o :: rest) a wr := fun ad hA hc => by
    obtain ⟨v', w', hr, h2, h3, h4⟩ := run_append_empty (P := P) wr t o.type e i z size bytes E.ht hi hz0 hz1 hz2 E.hz E.hs g hown ad m c ys hr.1 hc h1 hn hb
    refine wpList_plain hgd fun _ hK => ?_
    unfold Oper.wp execOp
    simp only [ho, resolve, invoke, builtin, Sem.run_bind, Sem.run_pure, Result.andThen_ok, List.map_toArray, List.map_cons, List.map_nil, hs, hx, hA, hr]
    exact hK _ _ (h v' w' h2 h3 h4)
  rcases Nat.eq_zero_or_pos m with h0 | h0
  · subst h0
    have hys : ys = [] := List.eq_nil_of_length_eq_zero (by simpa using hr.1)
    subst hys
    cases A with
    | some ad => exact key ad rfl fun j u hu => by simp at hu
    | none =>
      refine wpList_plain hgd fun _ hK => ?_
      have hrun := run_append_of_nil (P := P) wr 0 t o.type e i size E.ht hi _ 0 [] hown c
      unfold Oper.wp execOp
      simp only [ho, resolve, invoke, builtin, Sem.run_bind, Sem.run_pure, Result.andThen_ok, List.map_toArray, List.map_cons, List.map_nil, hs, hx, hrun]
      exact hK _ _ (h _ wr hown (gbR _ _) fun g' hg => .inl (by simp [Value.ownBlock] at hg; exact hg.symm))
  · obtain ⟨b, off, hA, hb', hc⟩ := hr.2 h0
    refine key ⟨b, off, none⟩ hA fun j u hu => ?_
    have hadd : (⟨b, off, none⟩ : Addr).add j = ⟨b, off + j, none⟩ := by unfold Addr.add; split <;> simp_all
    have hj : j < m * size := by rw [← hr.1]; exact (List.getElem?_eq_some_iff.1 hu).1
    rw [hadd, hc j hj, hu]
end
end Go.Proofs.Ythaadgdeadbhkaa
